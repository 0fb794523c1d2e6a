import Derived.Test.YtdilmfnijkjiaaaDoorK0
set_option maxRecDepth 100000
namespace Go.Proofs.YtdilmfnijkjiaaaDoor.K
open Go.RowKit

set_option maxHeartbeats 400000 in
theorem clone_calls (A : Option Addr) (c : Nat) (xs : List Int) (w : World) (h : IntSl w A c xs) (hl : xs.length * 8 ≤ 140737488355328) :
    Calls Tryd.prog 69 #[.slice A xs.length c] w fun e w' => ∃ v, e = .returned v ∧ OwnInts w' w.heap.size v xs ∧ Below w.heap.size w w' := by
  have hb : Below w.heap.size w (w.alloc (.cells #[] 3)) := (below_refl w).alloc (Nat.le_refl _) _
  have hk : IntSl (w.alloc (.cells #[] 3)) A c xs := h.below hb
  have HK := Lib.hid hk
  have HB := Lib.hid hb
  have HH := Lib.hid h
  clear hk hb h
  cases A with
  | none =>
    have h0 := HH.out.2.2.1 rfl
    have hx : xs = [] := List.eq_nil_of_length_eq_zero (by have := HH.out.1; omega)
    subst hx
    subst h0
    have he : ∀ w : World, (binOp .eql 28 (.slice none 0 0) (.slice none 0 0)).run Tryd.prog w = .ok (.bool true) w := fun w => Lib.run_eql_slice_nil w 28 3 none 0 0 0 0 Tryd.underlying28
    go_enter Tryd.func69, Tryd.ntmps69
    go_wp2
    go_ret
    exact ⟨_, rfl, OwnInts.nil w _, below_refl w⟩
  | some ad =>
    have he : ∀ w : World, (binOp .eql 28 (.slice (some ad) xs.length c) (.slice none 0 0)).run Tryd.prog w = .ok (.bool false) w := fun w => Lib.run_eql_slice_nil w 28 3 (some ad) xs.length c 0 0 Tryd.underlying28
    go_enter Tryd.func69, Tryd.ntmps69
    go_wp2_with (at_builtin; refine app_ints _ rfl _ _ rfl w.heap.size _ [] rfl (OwnInts.empty w) _ _ xs rfl HK.out ?c1 (by simp) ?_)
    case c1 => simpa using hl
    intro v' w' hown hgr _
    have HO := Lib.hid hown
    have HG := Lib.hid (below_of_grown HB.out hgr (by intro k hk; simp [Value.ownBlock] at hk; omega))
    clear hown hgr
    go_wp2
    go_ret
    exact ⟨_, rfl, HO.out, HG.out⟩
end Go.Proofs.YtdilmfnijkjiaaaDoor.K
