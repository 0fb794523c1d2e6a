import Derived.Test.YtdilmfnijkjiaaaDoorK15
set_option maxRecDepth 100000
set_option linter.unusedSimpArgs false
set_option linter.unusedVariables false
namespace Go.Proofs.YtdilmfnijkjiaaaDoor.K
open Go.RowKit
theorem below_base {base s : Nat} {w w' : World} (h : But s w w') (hs : base ≤ s) (hb : base ≤ w.heap.size) : Below base w w' := ⟨h.os, h.tape, h.output, h.size, fun k hk => h.block k (by omega) (by omega)⟩
theorem below_mono {base : Nat} {w w' : World} (h : Below w.heap.size w w') (hb : base ≤ w.heap.size) : Below base w w' := h.mono hb
/-- A literal's slice. -/
theorem lit_sl (w : World) (s : Nat) (hs : s < w.heap.size) (ns : List Int) (hn : ns.length ≤ 17592186044400) : IntSl (less (w.alloc (.cells (nums ns).toArray 3)) s) (some ⟨w.heap.size, 0, none⟩) ns.length ns := by
  refine ⟨Nat.le_refl _, by omega, (fun e => by cases e), fun ad e j x hj => ?_⟩
  obtain rfl := Option.some.inj e
  rw [World.cell?_of_block (w := w.alloc (.cells (nums ns).toArray 3)) (less_heap _ _ _ (by rw [Addr.add_block]; simp only; omega)), add_zero_off, cell_of_row _ _ _ _ _ _ (heap_alloc_new w _)]
  simp [nums, hj]
/-- What an operation of a step has done. -/
structure Did (base s : Nat) (K : SK) (w : World) (ls st : List Int) (err : Int) (w' : World) : Prop where
  inv : SInv base s K w' ls st err
  bel : Below base w w'
theorem take_lit (base s : Nat) (K : SK) (ns : List Int) (n : Nat) (hn : ns.length = n) (cs : Array Value) (hcs : cs = (nums ns).toArray) (w : World) (ls st : List Int) (err : Int) (h : SInv base s K w ls st err) (hl : n ≤ st.length) (hb : st.length ≤ 17592186044400) (hs : base ≤ s) :
    Calls Tryd.prog 101 #[.pointer (some ⟨s, 0, none⟩), .slice (some ⟨w.heap.size, 0, none⟩) n n] (w.alloc (.cells cs 3)) fun e w' => ∃ v, e = .returned v ∧ OwnInts w' (w.heap.size + 1) v (st.drop (st.length - n)) ∧ Did base s K w ls (st.take (st.length - n)) (takeErr err ns (st.drop (st.length - n))) w' ∧ w.heap.size < w'.heap.size := by
  subst hn hcs
  have hsz := h.lt
  refine (take_calls base s K _ _ ns _ ls st err (h.below (below_alloc' (below_refl w))) (lit_sl w s hsz ns (by omega)) hl hb).mono ?_
  rintro e w' ⟨v, rfl, ho, hi, hbut⟩
  have e1 : (w.alloc (.cells (nums ns).toArray 3)).heap.size = w.heap.size + 1 := by simp
  rw [e1] at ho
  exact ⟨v, rfl, ho, ⟨hi, (below_mono (below_alloc' (below_refl w)) (by omega)).trans (below_base hbut hs (by rw [e1]; omega))⟩, by have := hbut.size; rw [e1] at this; omega⟩
theorem put_lit (base s : Nat) (K : SK) (ys : List Int) (n : Nat) (hn : ys.length = n) (cs : Array Value) (hcs : cs = (nums ys).toArray) (w : World) (ls st : List Int) (err : Int) (h : SInv base s K w ls st err) (hb : st.length + n ≤ 17592186044400) (hs : base ≤ s) :
    Calls Tryd.prog 99 #[.pointer (some ⟨s, 0, none⟩), .slice (some ⟨w.heap.size, 0, none⟩) n n] (w.alloc (.cells cs 3)) fun e w' => e = .returned (.tuple #[]) ∧ Did base s K w ls (st ++ ys) err w' := by
  subst hn hcs
  have hsz := h.lt
  have hy : IntSl (w.alloc (.cells (nums ys).toArray 3)) (some ⟨w.heap.size, 0, none⟩) ys.length ys := (lit_sl w s hsz ys (by omega)).of_less
  have e1 : (w.alloc (.cells (nums ys).toArray 3)).heap.size = w.heap.size + 1 := by simp
  refine (put_calls base s K _ _ ys _ ls st err (h.below (below_alloc' (below_refl w))) hy (by omega) (by rw [e1]; omega)).mono ?_
  rintro e w' ⟨rfl, hi, h1, h2, h3, h4, h5⟩
  rw [e1] at h1
  refine ⟨rfl, hi, (below_mono (below_alloc' (below_refl w)) (by omega)).trans ⟨h3, h4, h5, by rw [e1]; omega, fun k hk => h2 k (by rw [e1]; omega) hk (by omega)⟩⟩
theorem Did.trans {base s : Nat} {K : SK} {w w1 w2 : World} {ls st ls2 st2 : List Int} {err err2 : Int} (h : Did base s K w ls st err w1) (k : Did base s K w1 ls2 st2 err2 w2) : Did base s K w ls2 st2 err2 w2 := ⟨k.inv, h.bel.trans k.bel⟩
def PlainPost (base s : Nat) (K : SK) (w : World) (ls st : List Int) (err : Int) (e : Ending) (w' : World) : Prop := e = .returned (.tuple #[]) ∧ Did base s K w ls st err w'
set_option maxHeartbeats 1000000 in
theorem plain_8y (base s : Nat) (a b : Int) (g : Nat) (FA : Option Addr) (nf fc : Nat) (lo cd res : Int) (LV : Value) (w : World) (ls st : List Int) (h : SInv base s ⟨8, a, b, g, FA, nf, fc, lo, cd, res, LV⟩ w ls st 0) (hs : base ≤ s) (hl : 2 ≤ st.length) (hb : st.length ≤ 17592186044300) :
    Calls Tryd.prog 64 #[.pointer (some ⟨s, 0, none⟩)] w (PlainPost base s ⟨8, a, b, g, FA, nf, fc, lo, cd, res, LV⟩ w ls (st.take (st.length - 2) ++ [0]) (takeErr 0 [0, 0] (st.drop (st.length - 2)))) := by
  obtain ⟨SV, h1, _⟩ := h.ex
  have c0 : w.cell? ⟨s, 0, none⟩ = some (.int .i64 8) := cell_of_row w s 0 _ _ _ h1
  have H := Lib.hid h
  have HT := Lib.hid (take_lit base s _ [0, 0] 2 rfl #[.int .i64 0, .int .i64 0] rfl w ls st 0 h hl (by omega) hs)
  clear h1 h
  go_enter Tryd.func64, Tryd.ntmps64
  go_wp2_with fail
  refine HT.out.mono ?_
  rintro e w1 ⟨v, rfl, ho, hd, hz⟩
  have HD := Lib.hid hd
  clear ho hd hz
  go_wp2_with fail
  refine (put_lit base s _ [0] 1 rfl _ rfl w1 ls _ _ HD.out.inv (by simp; omega) hs).mono ?_
  rintro e w2 ⟨rfl, hd⟩
  have HD2 := Lib.hid (HD.out.trans hd)
  clear hd
  go_wp2
  exact bodyPost_end (results_none rfl _ _ _) rfl ⟨rfl, HD2.out⟩
end Go.Proofs.YtdilmfnijkjiaaaDoor.K
