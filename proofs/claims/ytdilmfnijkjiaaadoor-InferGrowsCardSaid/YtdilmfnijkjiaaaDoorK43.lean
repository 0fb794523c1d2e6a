import Derived.Test.YtdilmfnijkjiaaaDoorK23
import Derived.Test.YtdilmfnijkjiaaaDoorK18b
set_option maxRecDepth 100000
set_option linter.unusedSimpArgs false
set_option linter.unusedVariables false
namespace Go.Proofs.YtdilmfnijkjiaaaDoor.K
open Go.RowKit
/-- The first list knows all that the second does. -/
def Le (xs ys : List Int) : Prop := xs.length = ys.length ∧ ∀ (j : Nat) (x y : Int), xs[j]? = some x → ys[j]? = some y → y = -1 ∨ x = y
set_option maxHeartbeats 1000000 in
theorem knows_calls (a b : Int) (w : World) (h : b = -1 ∨ a = b) : Calls Tryd.prog 78 #[.int .i64 a, .int .i64 b] w fun e w' => e = .returned (.bool true) ∧ w = w' := by
  by_cases hb : b = -1
  · subst hb
    go_enter Tryd.func78, Tryd.ntmps78
    go_wp2
    go_ret
    exact ⟨rfl, rfl⟩
  · obtain rfl : a = b := h.resolve_left hb
    have hb' : (a == -1) = false := beq_eq_false_iff_ne.2 hb
    go_enter Tryd.func78, Tryd.ntmps78
    go_wp2
    go_ret
    exact ⟨by simp, rfl⟩
set_option maxHeartbeats 2000000 in
theorem eqfunc_calls (A : Option Addr) (c : Nat) (xs : List Int) (B : Option Addr) (d : Nat) (ys : List Int) (w : World) (hA : IntSl w A c xs) (hB : IntSl w B d ys) (hl : Le xs ys) :
    Calls Tryd.prog 77 #[.slice A xs.length c, .slice B ys.length d, .func (.func 78) #[] #[]] w fun e w' => e = .returned (.bool true) ∧ w = w' := by
  have HA := Lib.hid hA
  have HB := Lib.hid hB
  have HL := Lib.hid hl.2
  have hlen := hl.1
  have hxl : xs.length ≤ 9223372036854775807 := Nat.le_trans hA.1 hA.2.1
  clear hA hB hl
  go_enter Tryd.func77, Tryd.ntmps77
  go_wp2_with fail
  have HLEN := Lib.hid hlen
  clear hlen
  go_loop [17] (fun t => ∃ k : Nat, k ≤ ys.length ∧ t = .int .i64 k) (fun t => ys.length - (intOf t).toNat)
  case atStart => exact ⟨0, Nat.zero_le _, rfl⟩
  case round =>
    obtain ⟨k, hk, rfl⟩ := hrel
    by_cases hlt : k < ys.length
    · have hlen := HLEN.out
      obtain ⟨pa, rfl, ha⟩ := HA.out.getI (k : Int) (by omega) (by omega)
      obtain ⟨pb, rfl, hb⟩ := HB.out.getI (k : Int) (by omega) (by omega)
      rw [Int.toNat_natCast] at ha hb
      have hkn := HL.out k (xs.getD k 0) (ys.getD k 0) (by rw [List.getD_eq_getElem?_getD, List.getElem?_eq_getElem (by omega : k < xs.length)]; rfl) (by rw [List.getD_eq_getElem?_getD, List.getElem?_eq_getElem hlt]; rfl)
      have hky : (k : Int) < (xs.length : Int) := by omega
      clear hlen
      generalize xs.getD k 0 = x at *
      generalize ys.getD k 0 = y at *
      have HC := Lib.hid (knows_calls x y w hkn)
      clear hkn
      go_wp2_with fail
      refine HC.out.mono ?_
      rintro e w' ⟨rfl, rfl⟩
      clear HC
      go_wp2_with fail
      go_round
      case rel => exact ⟨k + 1, by omega, by go_num⟩
      case measure => simp [intOf]; omega
    · go_wp2
      go_ret
      exact ⟨rfl, rfl⟩
set_option maxHeartbeats 1000000 in
theorem less_calls (LA : Option Addr) (lc : Nat) (ls : List Int) (SA : Option Addr) (sc : Nat) (st : List Int) (LB : Option Addr) (ld : Nat) (ls' : List Int) (SB : Option Addr) (sd : Nat) (st' : List Int) (w : World) (hL : IntSl w LA lc ls) (hS : IntSl w SA sc st) (hL' : IntSl w LB ld ls') (hS' : IntSl w SB sd st') (h1 : Le ls ls') (h2 : Le st st') :
    Calls Tryd.prog 35 #[.agg #[.slice LA ls.length lc, .slice SA st.length sc], .agg #[.slice LB ls'.length ld, .slice SB st'.length sd]] w fun e w' => e = .returned (.bool true) ∧ Below w.heap.size w w' := by
  have hB0 : Below w.heap.size w ((w.alloc (.cells #[.slice LA ls.length lc, .slice SA st.length sc] 30)).alloc (.cells #[.slice LB ls'.length ld, .slice SB st'.length sd] 30)) := below_alloc' (below_alloc' (below_refl w))
  have hb := heap2 w (.cells #[.slice LA ls.length lc, .slice SA st.length sc] 30) (.cells #[.slice LB ls'.length ld, .slice SB st'.length sd] 30)
  have c0 := cell_of_row _ _ 0 _ _ _ hb.1
  have c1 := cell_of_row _ _ 1 _ _ _ hb.1
  have c2 := cell_of_row _ _ 0 _ _ _ hb.2
  have c3 := cell_of_row _ _ 1 _ _ _ hb.2
  have H1 := Lib.hid (eqfunc_calls LA lc ls LB ld ls' _ (hL.below hB0) (hL'.below hB0) h1)
  have H2 := Lib.hid (eqfunc_calls SA sc st SB sd st' _ (hS.below hB0) (hS'.below hB0) h2)
  have HB0 := Lib.hid hB0
  clear hB0 hL hS hL' hS' hb h1 h2
  go_enter Tryd.func35, Tryd.ntmps35
  go_wp2_with fail
  refine H1.out.mono ?_
  rintro e w2 ⟨rfl, rfl⟩
  clear H1
  go_wp2_with fail
  refine H2.out.mono ?_
  rintro e w2 ⟨rfl, rfl⟩
  go_wp2
  go_ret
  exact ⟨rfl, HB0.out⟩
end Go.Proofs.YtdilmfnijkjiaaaDoor.K
