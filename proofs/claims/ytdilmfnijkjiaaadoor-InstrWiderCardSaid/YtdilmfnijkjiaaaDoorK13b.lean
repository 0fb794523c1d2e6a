import Derived.Test.YtdilmfnijkjiaaaDoorK23
import Derived.Deep.AppendLies
import Derived.Deep.RegionLaw
set_option maxRecDepth 100000
set_option linter.unusedSimpArgs false
set_option linter.unusedVariables false
namespace Go.Proofs.YtdilmfnijkjiaaaDoor.K
open Go.RowKit
/-- A table whose blocks' types are told. -/
def TabT (w : World) (g : Nat) (ts : List Ty) : Prop :=
  ∃ b cap L n lc cs base, w.heap[g]? = some (.cells #[.slice (some ⟨b, 0, none⟩) ts.length cap, .slice L n lc] 100 (0, 0)) ∧ w.ownsRow base 87 3 (.slice (some ⟨b, 0, none⟩) ts.length cap) ts.length cs ∧ TyCells w ts cs
theorem TabT.tab {w : World} {g : Nat} {ts : List Ty} (h : TabT w g ts) : Tab w g ts := by
  obtain ⟨b, cap, L, n, lc, cs, base, h1, h2, h3⟩ := h
  exact ⟨_, _, _, _, _, h1, (TySl.of_own h1 h2 h3).of_less⟩
theorem own_row87 {w : World} {base b n cap : Nat} {cs : List Value} (h : w.ownsRow base 87 3 (.slice (some ⟨b, 0, none⟩) n cap) n cs) : ∃ cur, w.heap[b]? = some (.cells cur 87 (0, 0)) := by
  rcases h.2 with ⟨hv, _⟩ | ⟨b', cap', cur, hv, _, hb, _⟩
  · cases hv
  · injection hv with h1 _ _
    obtain rfl : b = b' := by injection h1 with h1; injection h1 with h1
    exact ⟨cur, hb⟩
theorem own_move {w w' : World} {base b n cap : Nat} {cs : List Value} (h : w.ownsRow base 87 3 (.slice (some ⟨b, 0, none⟩) n cap) n cs) (hb : w'.heap[b]? = w.heap[b]?) (hs : w.heap.size ≤ w'.heap.size) : w'.ownsRow base 87 3 (.slice (some ⟨b, 0, none⟩) n cap) n cs := by
  obtain ⟨h1, h2⟩ := h
  refine ⟨h1, ?_⟩
  rcases h2 with h2 | ⟨b', cap', cur, hv, hbb, hg, rest⟩
  · exact .inl h2
  · injection hv with e1 e2 e3
    obtain rfl : b = b' := by injection e1 with e1; injection e1 with e1
    exact .inr ⟨b, cap', cur, by rw [e3], hbb, hb.trans hg, rest⟩
theorem TabT.move {w w' : World} {g : Nat} {ts : List Ty} (h : TabT w g ts) (hs : w.heap.size ≤ w'.heap.size) (hk : ∀ (k : Nat) (cs : Array Value) (t : TypeId) (fr : Nat × Nat), w.heap[k]? = some (Obj.cells cs t fr) → (t = 3 ∨ t = 87 ∨ t = 100) → w'.heap[k]? = w.heap[k]?) : TabT w' g ts := by
  obtain ⟨b, cap, L, n, lc, cs, base, h1, h2, h3⟩ := h
  obtain ⟨cur, h4⟩ := own_row87 h2
  exact ⟨b, cap, L, n, lc, cs, base, (hk _ _ _ _ h1 (by simp)).trans h1, own_move h2 (hk _ _ _ _ h4 (by simp)) hs, h3.keep ⟨hs, fun k cs' fr hb => hk k cs' 3 fr hb (by simp)⟩⟩
theorem TabT.below {w w' : World} {g : Nat} {ts : List Ty} (h : TabT w g ts) (hb : Below w.heap.size w w') : TabT w' g ts :=
  h.move hb.size fun k _ _ _ hk _ => hb.block k (Array.getElem?_eq_some_iff.1 hk).1
theorem TabT.set {w : World} {g : Nat} {ts : List Ty} (h : TabT w g ts) {p : Addr} {u : Value} {cs : Array Value} {t : TypeId} {fr : Nat × Nat} (hp : w.heap[p.block]? = some (.cells cs t fr)) (h3 : t ≠ 3) (h87 : t ≠ 87) (h100 : t ≠ 100) : TabT (w.setCell p u) g ts :=
  h.move (by simp [World.setCell]) fun k cs' t' fr' hk ht => Below.heap_setCell w p u k fun e => by
    subst e
    rw [hp] at hk
    injection hk with hk
    injection hk with _ hk _
    rcases ht with ht | ht | ht
    · exact h3 (hk.trans ht)
    · exact h87 (hk.trans ht)
    · exact h100 (hk.trans ht)
theorem tabT_of {W : World} {ts : List Ty} {g : Nat} {wr w' : World} {b cap : Nat} {cs : List Value} (h : NInv W ts g wr ts.length b cap cs) (hb : But g wr w') (ht : ∃ L n' lc, w'.heap[g]? = some (.cells #[.slice (some ⟨b, 0, none⟩) (allOf ts).length cap, .slice L n' lc] 100 (0, 0))) : TabT w' g (allOf ts) := by
  obtain ⟨L, n', lc, h1⟩ := ht
  have hc := h.cells
  rw [List.take_length] at hc
  have e : ts.length + 2 = (allOf ts).length := by simp [allOf]
  have ho := h.own
  rw [e] at ho
  have hne := h.neb.1
  have hlt := h.neb.2.1
  refine ⟨b, cap, L, n', lc, cs, W.heap.size, h1, own_move ho (hb.block b hlt hne) hb.size, hc.keep ⟨hb.size, fun k cs' fr hk => hb.block k (Array.getElem?_eq_some_iff.1 hk).1 fun e' => ?_⟩⟩
  rw [e', h.tab] at hk
  injection hk with hk
  injection hk with _ hk _
  exact absurd hk (by decide)
def NewPostT (W : World) (ts : List Ty) (e : Ending) (w' : World) : Prop :=
  Below W.heap.size W w' ∧ ((tysOk ts ∧ ∃ g, e = .returned (.tuple #[.pointer (some ⟨g, 0, none⟩), .int .i64 0]) ∧ W.heap.size ≤ g ∧ TabT w' g (allOf ts)) ∨ (¬ tysOk ts ∧ ∃ n : Int, n ≠ 0 ∧ e = .returned (.tuple #[.pointer none, .int .i64 n])))
set_option maxHeartbeats 2000000 in
theorem new_yesT (A : Option Addr) (c : Nat) (ts : List Ty) (W : World) (hT : TySl W A c ts) (hok : tysOk ts) :
    Calls Tryd.prog 28 #[.slice A ts.length c] W (NewPostT W ts) := by
  have hl := hok.1
  have hpl : ∀ t ∈ ts, t.parts.length ≤ 12 := fun t ht => by
    have h := hok.2 t ht
    simp only [tyOk, Bool.and_eq_true, decide_eq_true_eq] at h
    have h2 := h.1.1.1.1.2
    have h3 : mostOf t.kind ≤ 12 := by
      unfold mostOf
      split
      · omega
      · split <;> omega
    omega
  have HR := Lib.hid (tright_calls A c ts W hT (by omega) (fun t ht => by have := hpl t ht; omega))
  have HK := Lib.hid hok
  have HP := Lib.hid hpl
  have HT := Lib.hid hT
  clear hT hpl hok
  go_enter Tryd.func28, Tryd.ntmps28
  go_wp2_with fail
  refine HR.out.mono ?_
  rintro e w1 ⟨i, n, rfl, hn, hb⟩
  have HB := Lib.hid hb
  obtain rfl : n = 0 := hn.2 HK.out
  clear hb hn
  go_wp2
  have HI : Hid (NInv W ts (w1.heap.size + 1) ((w1.alloc (.cells #[.int .i64 0, .slice none 0 0, .int .i64 0, .int .i64 1, .slice none 0 0, .int .i64 0] 87)).alloc (.cells #[.slice (some ⟨w1.heap.size, 0, none⟩) 2 2, .slice none 0 0] 100)) 0 w1.heap.size 2
      [.int .i64 0, .slice none 0 0, .int .i64 0, .int .i64 1, .slice none 0 0, .int .i64 0]) := by
    refine Lib.hid ⟨heap_alloc2_new _ _ _, ⟨rfl, .inr ⟨w1.heap.size, 2, _, rfl, HB.out.size, heap_alloc2_old _ _ _, Nat.le_refl _, by decide, rfl, rfl⟩⟩, ?_, below_alloc' (below_alloc' HB.out), by have := HB.out.size; omega⟩
    have hn : ∀ w : World, IntSl3 w none 0 [] := fun w => ⟨⟨Nat.le_refl _, by omega, fun _ => rfl, fun ad e => by cases e⟩, fun ad e => by cases e⟩
    exact ⟨none, 0, _, rfl, hn _, none, 0, _, rfl, hn _, rfl⟩
  generalize ((w1.alloc (.cells #[.int .i64 0, .slice none 0 0, .int .i64 0, .int .i64 1, .slice none 0 0, .int .i64 0] 87)).alloc (.cells #[.slice (some ⟨w1.heap.size, 0, none⟩) 2 2, .slice none 0 0] 100)) = w2 at *
  generalize w1.heap.size + 1 = g at *
  go_loopw [24] (fun t wr => ∃ k b cap cs, k ≤ ts.length ∧ t = .int .i64 k ∧ Hid (NInv W ts g wr k b cap cs)) (fun t _ => ts.length - (intOf t).toNat)
  case atStart => exact ⟨0, _, _, _, Nat.zero_le _, rfl, HI⟩
  case round =>
    clear HI
    obtain ⟨k, b, cap, cs, hk, rfl, HI⟩ := hrel
    by_cases hlt : k < ts.length
    · obtain ⟨ad, A', c', rfl, g0, g1, g2, g3⟩ := HT.out.get (k : Int) (by omega) (by omega)
      have hx : ts[k]? = some (tyAt ts k) := by unfold tyAt; rw [List.getD_eq_getElem?_getD, Int.toNat_natCast, List.getElem?_eq_getElem hlt]; rfl
      have hxp := HP.out _ (List.mem_of_getElem? hx)
      have HX := Lib.hid hx
      rw [Int.toNat_natCast] at g0 g1 g2
      have g0' := cell_below HI.out.bel g0
      have g1' := cell_below HI.out.bel g1
      have g2' := cell_below HI.out.bel g2
      clear hx g0 g1 g2
      generalize tyAt ts k = x at *
      obtain ⟨xk, xp, xo⟩ := x
      have HC := Lib.hid (clone_calls A' c' xp _ (g3.below (below_alloc' (o := .cells #[.int .i64 xk, .slice A' xp.length c', .int .i64 xo] 87) HI.out.bel)) (by dsimp only at hxp; omega))
      have HJ := Lib.hid (HI.out.below (below_alloc' (o := .cells #[.int .i64 xk, .slice A' xp.length c', .int .i64 xo] 87) (below_refl wr)))
      clear g3 hxp
      go_wp2_with fail
      refine HC.out.mono ?_
      rintro e w3 ⟨v, rfl, ho, hb⟩
      obtain ⟨A2, c2, rfl, hs3⟩ := ho.sl3
      obtain ⟨hc, hf⟩ := bcell hb
      have HJ3 := Lib.hid (HJ.out.below hb)
      have HS3 := Lib.hid hs3
      have HBX : Hid (w3.heap[wr.heap.size]? = some (.cells #[.int .i64 xk, .slice A' xp.length c', .int .i64 xo] 87 (0, 0))) := Lib.hid ((hb.block _ (by simp)).trans (heap_alloc_new wr _))
      clear ho hb hs3
      go_wp2
      have HJ4 := Lib.hid (HJ3.out.far (p := ⟨wr.heap.size, 1, none⟩) HBX.out (by have := HI.out.neb; simp only; omega) (by have := HI.out.bel.size; simp only; omega) (.slice A2 xp.length c2))
      have HS4 := Lib.hid (HS3.out.keep (.of_set (p := ⟨wr.heap.size, 1, none⟩) (u := .slice A2 xp.length c2) HBX.out (by decide)))
      have HBX4 : Hid ((w3.setCell ⟨wr.heap.size, 1, none⟩ (.slice A2 xp.length c2)).heap[wr.heap.size]? = some (.cells #[.int .i64 xk, .slice A2 xp.length c2, .int .i64 xo] 87 (0, 0))) := Lib.hid (by rw [heap_setCell_same _ _ _ _ _ _ HBX.out]; rfl)
      clear g0' g1' g2' hc hf HBX HS3 HJ3 HJ HC
      generalize w3.setCell ⟨wr.heap.size, 1, none⟩ (.slice A2 xp.length c2) = w4 at *
      generalize wr.heap.size = xb at *
      have q := HJ4.out
      have v0 : w4.cell? ⟨xb, 0, none⟩ = some (.int .i64 xk) := cell_of_row w4 xb 0 _ _ _ HBX4.out
      have v1 : w4.cell? ⟨xb, 1, none⟩ = some (.slice A2 xp.length c2) := cell_of_row w4 xb 1 _ _ _ HBX4.out
      have v2 : w4.cell? ⟨xb, 2, none⟩ = some (.int .i64 xo) := cell_of_row w4 xb 2 _ _ _ HBX4.out
      have v3 : w4.cell? ⟨g, 0, none⟩ = some (.slice (some ⟨b, 0, none⟩) (k + 2) cap) := cell_of_row w4 g 0 _ _ _ q.tab
      have v4 : w4.frozen? ⟨g, 0, none⟩ = false := frozen_of_row w4 g 0 _ _ q.tab
      have n1 := q.neb.1
      have n2 := q.neb.2.2.1
      have n3 := q.neb.2.1
      have n4 := World.block_lt_of_cell? w4 _ v0
      obtain ⟨i0, hi0, hz0, hz1, hz2⟩ := info_parts info87
      clear q
      go_wp2
      go_region_law ((refine step_append_lies _ (by rfl) _ _ _ (by rfl) W.heap.size 87 i0 _ 3 40 Tryd.underlying22 hi0 hz0 hz1 hz2 rfl (by omega) (.slice (some ⟨b, 0, none⟩) (k + 2) cap) (k + 2) cs (by rfl) ((HJ4.out.own.alloc _).drew) ⟨w4.heap.size, 0, none⟩ 1 1 [.int .i64 xk, .slice A2 xp.length c2, .int .i64 xo] (by rfl) (by rfl) (World.news_of_block (cs := #[.int .i64 xk, .slice A2 xp.length c2, .int .i64 xo]) (t := 87) (fr := (0, 0)) (heap_alloc_new w4 _)) (by simp [Value.oneCell']) (by omega) (by simp only [maxLen]; omega) (by omega) (by simp; have := HJ4.out.bel.size; omega) (w4.heap.size + 1) (by simp) ?_; intro gg cap' w5 hown5 hgrow hat hlt5; obtain ⟨hp5, t1, t2⟩ := HJ4.out.pushed (.cells #[.int .i64 xk, .slice A2 xp.length c2, .int .i64 xo] 87) hlt HX.out HS4.out hown5 hgrow; have HP5 := Lib.hid hp5; clear hp5 hown5 hgrow hat))
      all_goals
        go_wp2
        go_roundw
        case rel => exact ⟨k + 1, gg, cap', _, by omega, by go_num, HP5⟩
        case measure => simp [intOf]; omega
    · obtain rfl : k = ts.length := by omega
      have q := HI.out
      have hcel := q.cells
      rw [List.take_length] at hcel
      have hty := TySl.of_own (ts := allOf ts) q.tab q.own hcel
      have HTY := Lib.hid hty
      have HC := Lib.hid (classes_calls g _ _ (allOf ts) wr q.tab hty (all_parts HK.out) (all_ofs HK.out) (by simp [allOf]; omega))
      clear q hcel hty
      go_wp2_with fail
      refine HC.out.mono ?_
      rintro e w7 ⟨rfl, hbut, L, n', lc, htab⟩
      have HB7 := Lib.hid hbut
      have HT7 := Lib.hid htab
      clear hbut htab
      go_wp2
      go_ret2
      exact ⟨below_of_but HI.out.bel HB7.out HI.out.geg, .inl ⟨HK.out, g, rfl, HI.out.geg, tabT_of HI.out HB7.out ⟨_, _, _, HT7.out⟩⟩⟩
theorem new_anyT (A : Option Addr) (c : Nat) (ts : List Ty) (W : World) (hT : TySl W A c ts) (hm : ts.length * 40 ≤ 140737488351232) (hp : ∀ t ∈ ts, t.parts.length * 8 ≤ 140737488351232) :
    Calls Tryd.prog 28 #[.slice A ts.length c] W fun e w' => (∃ n : Int, n ≠ 0 ∧ e = .returned (.tuple #[.pointer none, .int .i64 n]) ∧ Below W.heap.size W w') ∨
      (tysOk ts ∧ ∃ g, e = .returned (.tuple #[.pointer (some ⟨g, 0, none⟩), .int .i64 0]) ∧ TabT w' g (allOf ts) ∧ Below W.heap.size W w') := by
  by_cases h : tysOk ts
  · refine (new_yesT A c ts W hT h).mono ?_
    rintro e w' ⟨hb, ⟨hok, g, rfl, _, hT⟩ | ⟨_, n, hn, rfl⟩⟩
    · exact .inr ⟨hok, g, rfl, hT, hb⟩
    · exact .inl ⟨n, hn, rfl, hb⟩
  · refine (new_no A c ts W hT (by omega) (fun t ht => by have := hp t ht; omega) h).mono ?_
    rintro e w' ⟨hb, ⟨hok, _⟩ | ⟨_, n, hn, rfl⟩⟩
    · exact absurd hok h
    · exact .inl ⟨n, hn, rfl, hb⟩
end Go.Proofs.YtdilmfnijkjiaaaDoor.K
