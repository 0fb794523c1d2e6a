import Derived.Test.YtdilmfnijkjiaaaDoorK18
set_option maxRecDepth 100000
set_option linter.unusedSimpArgs false
set_option linter.unusedVariables false
namespace Go.Proofs.YtdilmfnijkjiaaaDoor.K
open Go.RowKit
theorem take_at (base s : Nat) (K : SK) (ns : List Int) (B : Option Addr) (n c : Nat) (hn : ns.length = n) (w w2 : World) (ls st : List Int) (err : Int) (h : SInv base s K w2 ls st err) (hy : IntSl (less w2 s) B c ns) (hw : Below base w w2) (hl : n ≤ st.length) (hb : st.length ≤ 17592186044400) (hs : base ≤ s) :
    Calls Tryd.prog 101 #[.pointer (some ⟨s, 0, none⟩), .slice B n c] w2 fun e w' => ∃ A c', e = .returned (.slice A n c') ∧ IntSl w' A c' (st.drop (st.length - n)) ∧ Did base s K w ls (st.take (st.length - n)) (takeErr err ns (st.drop (st.length - n))) w' := by
  subst hn
  have hsz := h.lt
  refine (take_calls base s K B c ns w2 ls st err h hy hl hb).mono ?_
  rintro e w' ⟨v, rfl, ho, hi, hbut⟩
  obtain ⟨A, c', rfl, hsl⟩ := ho.sl
  exact ⟨A, c', by congr 2; simp; omega, hsl, hi, hw.trans (below_base hbut hs (by omega))⟩
theorem SInv.blk {base s : Nat} {K : SK} {w : World} {ls st : List Int} {err : Int} (h : SInv base s K w ls st err) : ∃ SV, w.heap[s]? = some (.cells (stepCells K SV err) 93 (0, 0)) := by
  obtain ⟨SV, h1, _⟩ := h.ex
  exact ⟨SV, h1⟩
theorem OwnInts.sl' {w : World} {base : Nat} {v : Value} {xs : List Int} (h : OwnInts w base v xs) (s : Nat) (hs : s < base) : ∃ A c, v = .slice A xs.length c ∧ IntSl (K.less w s) A c xs := by
  obtain ⟨A, c, rfl, h1, h2, h3, h4⟩ := h.sl
  refine ⟨A, c, rfl, h1, h2, h3, fun ad e j x hj => ?_⟩
  subst e
  have hb := (h.block ad.block rfl).1
  rw [World.cell?_of_block (w := w) (less_heap _ _ _ (by rw [Addr.add_block]; omega))]
  exact h4 ad rfl j x hj
theorem Did.from {base s : Nat} {K : SK} {w w1 : World} {ls st : List Int} {err : Int} (hI : SInv base s K w ls st err) (hs : base ≤ s) (hb : Below w.heap.size w w1) : Did base s K w ls st err w1 := ⟨hI.below hb, below_mono hb (by have := hI.lt; omega)⟩
theorem OwnInts.set {w : World} {base b n cap : Nat} {xs : List Int} (h : OwnInts w base (.slice (some ⟨b, 0, none⟩) n cap) xs) (j : Nat) (v : Int) : OwnInts (w.setCell ⟨b, j, none⟩ (.int .i64 v)) base (.slice (some ⟨b, 0, none⟩) n cap) (xs.set j v) := by
  obtain ⟨h1, h2⟩ := h
  rcases h2 with ⟨hv, _⟩ | ⟨g, cap', cur, hv, hb, hg, hl, hm, hs, ht⟩
  · cases hv
  · injection hv with e1 e2 e3
    obtain rfl : b = g := by injection e1 with e1; injection e1 with e1
    subst e2 e3
    refine ⟨by simp [nums], .inr ⟨b, cap, cur.setIfInBounds j (.int .i64 v), by simp, hb, heap_setCell_same w b j cur 3 _ hg, by simpa using hl, hm, by simpa using hs, ?_⟩⟩
    simp only [Array.toList_setIfInBounds, List.length_set, Nat.mul_one, nums, List.map_set]
    rw [Nat.mul_one] at ht
    rw [List.take_set, ht]
    rfl
theorem OwnInts.some_of {w : World} {base : Nat} {v : Value} {xs : List Int} (h : OwnInts w base v xs) (hx : 0 < xs.length) : ∃ b cap, v = .slice (some ⟨b, 0, none⟩) xs.length cap ∧ base ≤ b := by
  rcases h.2 with ⟨_, h0⟩ | ⟨g, cap, cur, hv, hb, _⟩
  · omega
  · exact ⟨g, cap, hv, hb⟩
theorem OwnInts.cellAt {w : World} {base b n cap : Nat} {xs : List Int} (h : OwnInts w base (.slice (some ⟨b, 0, none⟩) n cap) xs) (j : Nat) (hj : j < xs.length) : w.cell? ⟨b, j, none⟩ = some (.int .i64 xs[j]) ∧ w.frozen? ⟨b, j, none⟩ = false := by
  obtain ⟨cs, hc⟩ := h.typed b rfl
  refine ⟨?_, frozen_of_row w b j _ _ hc⟩
  have := World.ownsRow.cells h (g := b) rfl j (.int .i64 xs[j]) (by simp [nums, hj])
  rwa [add_zero_off] at this
end Go.Proofs.YtdilmfnijkjiaaaDoor.K
