import Derived.Test.YtdilmfnijkjiaaaDoorK66
import Derived.Deep.RegionHeld3
import Derived.Deep.RegionWith
set_option maxRecDepth 100000
set_option linter.unusedSimpArgs false
set_option linter.unusedVariables false
namespace Go.Proofs.YtdilmfnijkjiaaaDoor.K
open Go.RowKit
def storeText : ByteArray := ⟨#[115, 116, 111, 114, 101, 32, 50, 32, 49]⟩
theorem words_store : wordsOf storeText = [⟨#[115, 116, 111, 114, 101]⟩, ⟨#[50]⟩, ⟨#[49]⟩] := by kernel_rfl
theorem parse_store : parseM storeText = some ⟨24, 2, 1⟩ := by kernel_rfl
theorem name_add : nameOf 8 = ⟨#[97, 100, 100]⟩ := by kernel_rfl
theorem form_closure : (rowOf 29).form = 8 := by kernel_rfl
set_option maxHeartbeats 1000000 in
theorem shownI_calls (w : World) (hE : Env w) : Calls Tryd.prog 38 #[] w fun e w' => e = .returned (.bool true) ∧ Below w.heap.size w w' := by
  have hP := parseI_calls storeText (by decide) w hE (by rw [words_store]; decide)
  rw [parse_store] at hP
  have HP := Lib.hid hP
  unfold ParsePost at HP
  have HN := Lib.hid (nameI_calls 8)
  unfold NamePost at HN
  rw [name_add] at HN
  have HF := Lib.hid (formI_calls 29)
  unfold IntPost at HF
  rw [form_closure] at HF
  clear hP hE
  go_enter Tryd.func38, Tryd.ntmps38
  go_wp2_with fail
  refine HP.out.mono ?_
  rintro e w1 ⟨rfl, hb⟩
  have HB1 := Lib.hid hb
  clear hb HP
  go_wp2_with fail
  refine (HN.out _).mono ?_
  rintro e w2 ⟨rfl, hb⟩
  have HB2 := Lib.hid (below_then (below_alloc' HB1.out) hb)
  clear hb HN
  go_wp2_with fail
  refine (HF.out _).mono ?_
  rintro e w3 ⟨rfl, hb⟩
  have HB3 := Lib.hid (below_then HB2.out hb)
  clear hb HF
  go_wp2_with fail
  go_ret
  exact ⟨rfl, HB3.out⟩
end Go.Proofs.YtdilmfnijkjiaaaDoor.K
