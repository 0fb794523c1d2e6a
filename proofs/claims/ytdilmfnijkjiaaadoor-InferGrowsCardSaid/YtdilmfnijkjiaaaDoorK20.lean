import Derived.Test.YtdilmfnijkjiaaaDoorK18b
import Derived.Deep.RegionHeld3
import Derived.Deep.RegionWith
set_option maxRecDepth 100000
set_option linter.unusedSimpArgs false
set_option linter.unusedVariables false
namespace Go.Proofs.YtdilmfnijkjiaaaDoor.K
open Go.RowKit
theorem cell_far {w : World} {p a : Addr} {v u : Value} (h : w.cell? a = some u) (hp : p.block ≠ a.block) : (w.setCell p v).cell? a = some u := (World.cell?_setCell_far w p a v hp).trans h
theorem SInv.setL {base s : Nat} {K : SK} {w : World} {ls st : List Int} {err : Int} (h : SInv base s K w ls st err) {lb n lc : Nat} (hL : K.LV = .slice (some ⟨lb, 0, none⟩) n lc) (j : Nat) (x : Int) : SInv base s K (w.setCell ⟨lb, j, none⟩ (.int .i64 x)) (ls.set j x) st err := by
  obtain ⟨SV, h1, h2, h3, h4⟩ := h.ex
  have hne : s ≠ lb := by
    rcases h2.ne_s h1 with e | e
    · rw [hL] at e; cases e
    · rw [hL] at e
      exact fun e' => e (by rw [e']; rfl)
  refine ⟨SV, ?_, ?_, ?_, h4⟩
  · rw [heap_setCell_other _ _ _ _ hne]
    exact h1
  · rw [hL] at h2 ⊢
    exact h2.set j x
  · refine h3.kept (row := some lb) ⟨rfl, rfl, rfl, by simp [World.setCell], fun k _ hk => Below.heap_setCell _ _ _ _ (fun e => hk (by rw [e]))⟩ ?_
    rw [hL] at h4
    rcases h4 with e | e
    · cases e
    · exact .inr (Ne.symm e)
set_option maxHeartbeats 1000000 in
theorem plain_4 (base s : Nat) (a b : Int) (g : Nat) (FA : Option Addr) (nf fc : Nat) (lo cd res : Int) (LV : Value) (w : World) (ls st : List Int) (h : SInv base s ⟨4, a, b, g, FA, nf, fc, lo, cd, res, LV⟩ w ls st 0) (hs : base ≤ s) (hb : st.length ≤ 17592186044300) (n : Nat) (hna : a = n) (ha1 : n < ls.length) (hl : 1 ≤ st.length) (x : Int) (hx : st.drop (st.length - 1) = [x]) :
    Calls Tryd.prog 64 #[.pointer (some ⟨s, 0, none⟩)] w (PlainPost base s ⟨4, a, b, g, FA, nf, fc, lo, cd, res, LV⟩ w (ls.set n x) (st.take (st.length - 1)) (takeErr 0 [-2] [x])) := by
  subst hna
  obtain ⟨lb, lc, rfl, hlb⟩ : ∃ lb lc, LV = .slice (some ⟨lb, 0, none⟩) ls.length lc ∧ base ≤ lb := by obtain ⟨_, _, hq, _⟩ := h.ex; exact hq.some_of (by omega)
  obtain ⟨SV, h1, _⟩ := h.ex
  have c0 : w.cell? ⟨s, 0, none⟩ = some (.int .i64 4) := cell_of_row w s 0 _ _ _ h1
  have c1 : w.cell? ⟨s, 1, none⟩ = some (.int .i64 (n : Int)) := cell_of_row w s 1 _ _ _ h1
  have c8 : w.cell? ⟨s, 8, none⟩ = some (.slice (some ⟨lb, 0, none⟩) ls.length lc) := cell_of_row w s 8 _ _ _ h1
  have hsl : lb ≠ s := by
    obtain ⟨_, k1, k2, _⟩ := h.ex
    rcases k2.ne_s k1 with e | e
    · cases e
    · exact fun e' => e (by rw [e']; rfl)
  have hnI : (n : Int) < (ls.length : Int) := by omega
  have H := Lib.hid h
  have HT := Lib.hid (take_at base s _ [-2] (some ⟨w.heap.size, 0, none⟩) 1 1 rfl w (w.alloc (.cells #[.int .i64 (-2)] 3)).drew ls st 0 (h.below (below_drew' (below_alloc' (below_refl _)))) ((lit_sl w s h.lt [-2] (by simp)).below (But.of_below (below_drew' (below_refl _))).less) (below_mono (below_drew' (below_alloc' (below_refl _))) (by have := h.lt; omega)) hl (by omega) hs)
  rw [hx] at HT
  have hlt := h.lt
  clear h h1 hx
  go_enter Tryd.func64, Tryd.ntmps64
  go_wp2
  go_region_with
    (first | (go_at_call 101; refine HT.out.mono ?_; rintro e w1 ⟨A1, c1', rfl, ho, hd⟩; have HD := Lib.hid hd; obtain ⟨ad, rfl, hcell⟩ := ho.getI 0 (Int.le_refl _) (by simp); have hc0 : w1.cell? ad = some (.int .i64 x) := hcell; obtain ⟨SV2, k1⟩ := hd.inv.blk; have d1 : w1.cell? ⟨s, 1, none⟩ = some (.int .i64 (n : Int)) := cell_of_row _ s 1 _ _ _ k1; have d8 : w1.cell? ⟨s, 8, none⟩ = some (.slice (some ⟨lb, 0, none⟩) ls.length lc) := cell_of_row _ s 8 _ _ _ k1; obtain ⟨f1, f2⟩ := (by obtain ⟨_, _, hq, _⟩ := hd.inv.ex; exact hq.cellAt n ha1 : w1.cell? ⟨lb, n, none⟩ = some (.int .i64 ls[n]) ∧ w1.frozen? ⟨lb, n, none⟩ = false); clear ho hd hcell k1))
  all_goals
    go_wp2
    exact bodyPost_end (results_none rfl _ _ _) rfl ⟨rfl, ⟨HD.out.inv.setL rfl n x, HD.out.bel.setCell hlb _⟩⟩
end Go.Proofs.YtdilmfnijkjiaaaDoor.K
