import Derived.Test.YtdilmfnijkjiaaaDoorK68
set_option maxRecDepth 100000
set_option linter.unusedSimpArgs false
set_option linter.unusedVariables false
namespace Go.Proofs.YtdilmfnijkjiaaaDoor.K
open Go.RowKit
set_option maxHeartbeats 4000000 in
theorem instrTable_calls (n : Int) (name : ByteArray) (w : World) (hE : Env w) (hz : name.size ≤ reachBytes) : Calls Tryd.prog 14 #[.int .i64 n, .string name] w fun e w' => e = .returned (.bool true) ∧ Below w.heap.size w w' := by
  have HS := Lib.hid (shownI_calls w hE)
  have HN := Lib.hid (nameI_calls n)
  have HN4 := Lib.hid (name4_calls n)
  unfold NamePost at HN HN4
  have HF := Lib.hid (formI_calls n)
  have HF4 := Lib.hid (form4_calls n)
  have HK := Lib.hid (kindI_calls n)
  have HK4 := Lib.hid (kind4_calls n)
  unfold IntPost at HF HF4 HK HK4
  have HEN := Lib.hid (endsI_calls n)
  have HEN4 := Lib.hid (ends4_calls n)
  have HMK := Lib.hid (makesI_calls n)
  have HMK4 := Lib.hid (makes4_calls n)
  have HCA := Lib.hid (callsI_calls n)
  have HCA4 := Lib.hid (calls4_calls n)
  have HO := Lib.hid (opI_calls name)
  have HO4 := Lib.hid (op4_calls name)
  have HQ := Lib.hid (opI_calls (nameOf n))
  have HQ4 := Lib.hid (op4_calls (nameOf n))
  unfold OpPost at HO HO4 HQ HQ4
  generalize opOf (nameOf n) = o2 at *
  generalize nameOf n = nm at *
  generalize opOf name = o1 at *
  generalize (rowOf n).form = fm at *
  generalize (rowOf n).kind = kd at *
  generalize endsB n = en at *
  generalize makesB n = mk at *
  generalize callsB n = ca at *
  clear hE hz
  go_enter Tryd.func14, Tryd.ntmps14
  go_wp2_with fail
  refine HS.out.mono ?_
  rintro e w1 ⟨rfl, hb⟩
  have HB1 := Lib.hid hb
  clear hb HS
  go_wp2_with fail
  go_loopw [6] (fun t wr => ∃ k : Nat, k ≤ 2 ∧ t = .int .i64 k ∧ Hid (Below w.heap.size w wr)) (fun t _ => 2 - (intOf t).toNat)
  case atStart => exact ⟨0, Nat.zero_le _, rfl, HB1⟩
  case round =>
    obtain ⟨k, hk, rfl, HX0⟩ := hrel
    by_cases hlt : k < 2
    · have hki : (k : Int) < 2 := by omega
      go_wp2_with fail
      refine (HN.out _).mono ?_
      rintro e v1 ⟨rfl, hb⟩
      have HX1 := Lib.hid (below_then HX0.out hb)
      clear hb
      go_wp2_with fail
      refine (HN4.out _).mono ?_
      rintro e v2 ⟨rfl, hb⟩
      have HX2 := Lib.hid (below_then HX1.out hb)
      clear hb
      go_wp2_with fail
      refine (HF.out _).mono ?_
      rintro e v3 ⟨rfl, hb⟩
      have HX3 := Lib.hid (below_then HX2.out hb)
      clear hb
      go_wp2_with fail
      refine (HF4.out _).mono ?_
      rintro e v4 ⟨rfl, hb⟩
      have HX4 := Lib.hid (below_then HX3.out hb)
      clear hb
      go_wp2_with fail
      refine (HK.out _).mono ?_
      rintro e v5 ⟨rfl, hb⟩
      have HX5 := Lib.hid (below_then HX4.out hb)
      clear hb
      go_wp2_with fail
      refine (HK4.out _).mono ?_
      rintro e v6 ⟨rfl, hb⟩
      have HX6 := Lib.hid (below_then HX5.out hb)
      clear hb
      go_wp2_with (first
        | (go_at_call 47; refine (HEN.out _).mono ?_; rintro e w' ⟨rfl, rfl⟩)
        | (go_at_call 53; refine (HEN4.out _).mono ?_; rintro e w' ⟨rfl, rfl⟩)
        | (go_at_call 46; refine (HMK.out _).mono ?_; rintro e w' ⟨rfl, rfl⟩)
        | (go_at_call 54; refine (HMK4.out _).mono ?_; rintro e w' ⟨rfl, rfl⟩)
        | (go_at_call 48; refine (HCA.out _).mono ?_; rintro e w' ⟨rfl, rfl⟩)
        | (go_at_call 55; refine (HCA4.out _).mono ?_; rintro e w' ⟨rfl, rfl⟩))
      refine (HO.out _).mono ?_
      rintro e v7 ⟨rfl, hb⟩
      have HX7 := Lib.hid (below_then HX6.out hb)
      clear hb
      go_wp2_with fail
      refine (HO4.out _).mono ?_
      rintro e v8 ⟨rfl, hb⟩
      have HX8 := Lib.hid (below_then HX7.out hb)
      clear hb
      go_wp2_with fail
      refine (HN.out _).mono ?_
      rintro e v9 ⟨rfl, hb⟩
      have HX9 := Lib.hid (below_then HX8.out hb)
      clear hb
      go_wp2_with fail
      refine (HQ.out _).mono ?_
      rintro e v10 ⟨rfl, hb⟩
      have HX10 := Lib.hid (below_then HX9.out hb)
      clear hb
      go_wp2_with fail
      refine (HN4.out _).mono ?_
      rintro e v11 ⟨rfl, hb⟩
      have HX11 := Lib.hid (below_then HX10.out hb)
      clear hb
      go_wp2_with fail
      refine (HQ4.out _).mono ?_
      rintro e v12 ⟨rfl, hb⟩
      have HX12 := Lib.hid (below_then HX11.out hb)
      clear hb
      go_wp2_with fail
      go_roundw
      case rel => exact ⟨k + 1, by omega, by go_num, HX12⟩
      case measure => simp [intOf]; omega
    · obtain rfl : k = 2 := by omega
      go_wp2_with fail
      go_ret
      exact ⟨rfl, HX0.out⟩
end Go.Proofs.YtdilmfnijkjiaaaDoor.K
