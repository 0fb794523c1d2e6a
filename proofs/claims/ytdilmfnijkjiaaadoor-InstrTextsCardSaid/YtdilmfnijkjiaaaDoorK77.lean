import Derived.Test.YtdilmfnijkjiaaaDoorK76
import Derived.Test.YtdilmfnijkjiaaaDoorKArg3
import Derived.Deep.RegionHeld3
import Derived.Deep.RegionWith
set_option maxRecDepth 100000
set_option linter.unusedSimpArgs false
set_option linter.unusedVariables false
namespace Go.Proofs.YtdilmfnijkjiaaaDoor.K
open Go.RowKit
set_option maxHeartbeats 4000000 in
theorem instrTexts_calls (LA : Option Addr) (lc : Nat) (l : List Ins) (w : World) (hE : Env w) (hL : InsSl w LA lc l) (hlm : l.length * 24 ≤ 140737488351232) (hli : ∀ t ∈ l, InsIn t) :
    Calls Tryd.prog 10 #[.slice LA l.length lc] w fun e w' => e = .returned (.bool true) ∧ Below w.heap.size w w' := by
  have HS := Lib.hid (shownI_calls w hE)
  have HL := Lib.hid hL
  have HE := Lib.hid hE
  have hll : l.length ≤ 9223372036854775807 := by omega
  clear hL hE hlm hli
  go_enter Tryd.func10, Tryd.ntmps10
  go_wp2_with fail
  refine HS.out.mono ?_
  rintro e w1 ⟨rfl, hb⟩
  have HB1 := Lib.hid hb
  have HL1 := Lib.hid (HL.out.below hb)
  have HE1 := Lib.hid (HE.out.below hb)
  clear hb HS HL HE
  go_wp2_with fail
  go_loopw [4] (fun t wr => ∃ k : Nat, k ≤ l.length ∧ t = .int .i64 k ∧ Hid (Below w1.heap.size w1 wr)) (fun t _ => l.length - (intOf t).toNat)
  case atStart => exact ⟨0, Nat.zero_le _, rfl, Lib.hid (below_refl w1)⟩
  case round =>
    obtain ⟨k, hk, rfl, HBK⟩ := hrel
    by_cases hlt : k < l.length
    · obtain ⟨ad, i, rfl, hi, d0, d1, d2⟩ := (HL1.out.below HBK.out).get k hlt
      obtain ⟨op, a, b⟩ := i
      dsimp only at d0 d1 d2
      have HEk := Lib.hid (HE1.out.below HBK.out)
      have HR : Hid (∀ W, Below wr.heap.size wr W → Calls Tryd.prog 39 #[.agg #[.int .i64 op, .int .i64 a, .int .i64 b]] W fun e w' => e = .returned (.string (textM ⟨op, a, b⟩)) ∧ Below W.heap.size W w') := Lib.hid fun W h => textI_calls ⟨op, a, b⟩ W (HEk.out.below h)
      have HR4 : Hid (∀ W, Below wr.heap.size wr W → Calls Tryd.prog 40 #[.agg #[.int .i64 op, .int .i64 a, .int .i64 b]] W fun e w' => e = .returned (.string (textM ⟨op, a, b⟩)) ∧ Below W.heap.size W w') := Lib.hid fun W h => text4_calls op a b W
      generalize textM ⟨op, a, b⟩ = v at *
      have hvv : (v.toList == v.toList) = true := str_eq rfl
      have hki : (k : Int) < (l.length : Int) := by omega
      clear hi
      have HKS : Hid (∀ w', Below wr.heap.size wr w' → (w'.cell? (ad.add (k * 3)) = some (.int .i64 op) ∧ w'.cell? ⟨(ad.add (k * 3)).block, (ad.add (k * 3)).off + 1, none⟩ = some (.int .i64 a) ∧ w'.cell? ⟨(ad.add (k * 3)).block, (ad.add (k * 3)).off + 2, none⟩ = some (.int .i64 b) ∧ Below wr.heap.size wr w')) := Lib.hid fun w' h => ⟨cell_below h d0, cell_below h d1, cell_below h d2, h⟩
      go_wp2_with fail
      go_region_held3 (fun w' => (w'.cell? (ad.add (k * 3)) = some (.int .i64 op) ∧ w'.cell? ⟨(ad.add (k * 3)).block, (ad.add (k * 3)).off + 1, none⟩ = some (.int .i64 a) ∧ w'.cell? ⟨(ad.add (k * 3)).block, (ad.add (k * 3)).off + 2, none⟩ = some (.int .i64 b) ∧ Below wr.heap.size wr w'))
        (first
          | exact HKS.out _ (below_refl _)
          | exact HKS.out _ (below_drew' (below_refl _))
          | (go_split_ands; exact HKS.out _ (by assumption))
          | (go_split_ands; exact HKS.out _ (below_then (by assumption) (by assumption)))
          | (go_keep; done))
        (first
          | (go_at_call 39; go_split_ands; refine (HR.out _ (by assumption)).mono ?_; rintro e w8 ⟨rfl, hb8⟩)
          | (go_at_call 40; go_split_ands; refine (HR4.out _ (by assumption)).mono ?_; rintro e w9 ⟨rfl, hb9⟩))
      have hcur : Below wr.heap.size wr w9 := by go_split_ands; assumption
      have HBZ := Lib.hid (below_then HBK.out hcur)
      clear hcur
      go_wp2_with fail
      go_roundw
      case rel => exact ⟨k + 1, by omega, by go_num, HBZ⟩
      case measure => simp [intOf]; omega
    · obtain rfl : k = l.length := by omega
      go_wp2_with fail
      go_ret
      exact ⟨rfl, below_then HB1.out HBK.out⟩
end Go.Proofs.YtdilmfnijkjiaaaDoor.K
