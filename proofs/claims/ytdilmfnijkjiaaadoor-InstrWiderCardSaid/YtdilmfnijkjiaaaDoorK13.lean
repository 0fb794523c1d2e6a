import Derived.Test.YtdilmfnijkjiaaaDoorK12
import Derived.Deep.AppendLies
import Derived.Deep.RegionLaw
set_option maxRecDepth 100000
set_option linter.unusedSimpArgs false
set_option linter.unusedVariables false
namespace Go.Proofs.YtdilmfnijkjiaaaDoor.K
open Go.RowKit
/-- The blocks of ints are as they were. -/
structure Keep3 (w w' : World) : Prop where
  size : w.heap.size ≤ w'.heap.size
  block : ∀ (k : Nat) (cs : Array Value) (fr : Nat × Nat), w.heap[k]? = some (Obj.cells cs 3 fr) → w'.heap[k]? = w.heap[k]?
theorem Keep3.refl (w : World) : Keep3 w w := ⟨Nat.le_refl _, fun _ _ _ _ => rfl⟩
theorem Keep3.trans {a b c : World} (h : Keep3 a b) (k : Keep3 b c) : Keep3 a c := ⟨Nat.le_trans h.size k.size, fun i cs fr hi => (k.block i cs fr ((h.block i cs fr hi).trans hi)).trans (h.block i cs fr hi)⟩
theorem Keep3.of_below {w w' : World} (h : Below w.heap.size w w') : Keep3 w w' := ⟨h.size, fun k cs fr hk => h.block k (Array.getElem?_eq_some_iff.1 hk).1⟩
theorem Keep3.of_grown {w w' : World} {b : Nat} {cs : Array Value} {e : TypeId} {fr : Nat × Nat} (h : w.grownBy w' (some b)) (hb : w.heap[b]? = some (.cells cs e fr)) (he : e ≠ 3) : Keep3 w w' :=
  ⟨h.size, fun k cs' fr' hk => h.block k (Array.getElem?_eq_some_iff.1 hk).1 (fun e' => by
    obtain rfl := Option.some.inj e'
    rw [hb] at hk
    injection hk with hk
    injection hk with _ hk _
    exact he hk)⟩
theorem Keep3.of_set {w : World} {p : Addr} {u : Value} {cs : Array Value} {e : TypeId} {fr : Nat × Nat} (hb : w.heap[p.block]? = some (.cells cs e fr)) (he : e ≠ 3) : Keep3 w (w.setCell p u) :=
  ⟨by simp [World.setCell], fun k cs' fr' hk => Below.heap_setCell w p u k (fun e' => by
    subst e'
    rw [hb] at hk
    injection hk with hk
    injection hk with _ hk _
    exact he hk)⟩
def IntSl3 (w : World) (A : Option Addr) (c : Nat) (xs : List Int) : Prop := IntSl w A c xs ∧ ∀ ad, A = some ad → ∃ (cs : Array Value) (fr : Nat × Nat), w.heap[ad.block]? = some (Obj.cells cs 3 fr)
theorem Addr.add_block (a : Addr) (n : Nat) : (a.add n).block = a.block := by unfold Addr.add; split <;> rfl
theorem IntSl3.keep {w w' : World} {A : Option Addr} {c : Nat} {xs : List Int} (h : IntSl3 w A c xs) (hk : Keep3 w w') : IntSl3 w' A c xs := by
  refine ⟨⟨h.1.1, h.1.2.1, h.1.2.2.1, fun ad e j x hj => ?_⟩, fun ad e => ?_⟩
  · obtain ⟨cs, fr, hb⟩ := h.2 ad e
    rw [World.cell?_of_block (w := w) (by rw [Addr.add_block]; exact hk.block _ cs fr hb)]
    exact h.1.2.2.2 ad e j x hj
  · obtain ⟨cs, fr, hb⟩ := h.2 ad e
    exact ⟨cs, fr, (hk.block _ cs fr hb).trans hb⟩
theorem IntSl3.less {w : World} {g : Nat} {cs : Array Value} {e : TypeId} {fr : Nat × Nat} (hg : w.heap[g]? = some (.cells cs e fr)) (he : e ≠ 3) {A : Option Addr} {c : Nat} {xs : List Int} (h : IntSl3 w A c xs) : IntSl (K.less w g) A c xs := by
  refine ⟨h.1.1, h.1.2.1, h.1.2.2.1, fun ad e' j x hj => ?_⟩
  obtain ⟨cs', fr', hb⟩ := h.2 ad e'
  have hne : ad.block ≠ g := fun e2 => by
    rw [e2, hg] at hb
    injection hb with hb
    injection hb with _ hb _
    exact he hb
  rw [World.cell?_of_block (w := w) (less_heap w g _ (by rw [Addr.add_block]; exact hne))]
  exact h.1.2.2.2 ad e' j x hj
theorem OwnInts.sl3 {w : World} {base : Nat} {v : Value} {xs : List Int} (h : OwnInts w base v xs) : ∃ A c, v = .slice A xs.length c ∧ IntSl3 w A c xs := by
  obtain ⟨A, c, hv, hs⟩ := h.sl
  refine ⟨A, c, hv, hs, fun ad e => ?_⟩
  subst e
  rcases h.2 with ⟨hv', _⟩ | ⟨g, cap, cur, hv', hb, hg, _⟩
  · rw [hv] at hv'
    cases hv'
  · rw [hv] at hv'
    injection hv' with h1 _ _
    obtain rfl := Option.some.inj h1
    exact ⟨cur, _, hg⟩

/-- The cells of types. -/
def TyCells (w : World) : List Ty → List Value → Prop
  | [], cs => cs = []
  | t :: ts, cs => ∃ A c rest, cs = .int .i64 t.kind :: .slice A t.parts.length c :: .int .i64 t.of :: rest ∧ IntSl3 w A c t.parts ∧ TyCells w ts rest
theorem TyCells.keep {w w' : World} (hk : Keep3 w w') : ∀ {ts : List Ty} {cs : List Value}, TyCells w ts cs → TyCells w' ts cs
  | [], _, h => h
  | _ :: _, _, ⟨A, c, rest, h1, h2, h3⟩ => ⟨A, c, rest, h1, h2.keep hk, h3.keep hk⟩
theorem TyCells.snoc {w : World} {A : Option Addr} {c : Nat} {t : Ty} (hi : IntSl3 w A c t.parts) : ∀ {ts : List Ty} {cs : List Value}, TyCells w ts cs → TyCells w (ts ++ [t]) (cs ++ [.int .i64 t.kind, .slice A t.parts.length c, .int .i64 t.of])
  | [], _, h => by
    have h' : _ = [] := h
    subst h'
    exact ⟨A, c, [], rfl, hi, rfl⟩
  | _ :: _, _, ⟨B, d, rest, h1, h2, h3⟩ => ⟨B, d, _, by rw [h1]; rfl, h2, h3.snoc hi⟩
theorem TyCells.len {w : World} : ∀ {ts : List Ty} {cs : List Value}, TyCells w ts cs → cs.length = ts.length * 3
  | [], _, h => by have h' : _ = [] := h; subst h'; rfl
  | _ :: ts, _, ⟨B, d, rest, h1, h2, h3⟩ => by rw [h1]; simp only [List.length_cons, h3.len]; omega
theorem TyCells.one {w : World} : ∀ {ts : List Ty} {cs : List Value}, TyCells w ts cs → ∀ u ∈ cs, u.oneCell' = true
  | [], _, h, u, hu => by have h' : _ = [] := h; subst h'; cases hu
  | _ :: ts, _, ⟨B, d, rest, h1, h2, h3⟩, u, hu => by
    subst h1
    simp only [List.mem_cons] at hu
    rcases hu with rfl | rfl | rfl | hu
    · rfl
    · rfl
    · rfl
    · exact h3.one u hu
theorem TyCells.get {w : World} : ∀ {ts : List Ty} {cs : List Value}, TyCells w ts cs → ∀ j t, ts[j]? = some t → ∃ A c, cs[j * 3]? = some (.int .i64 t.kind) ∧ cs[j * 3 + 1]? = some (.slice A t.parts.length c) ∧ cs[j * 3 + 2]? = some (.int .i64 t.of) ∧ IntSl3 w A c t.parts
  | [], _, _, j, t, hj => by simp at hj
  | s :: ts, _, ⟨B, d, rest, h1, h2, h3⟩, j, t, hj => by
    subst h1
    cases j with
    | zero =>
      obtain rfl : s = t := by simpa using hj
      exact ⟨B, d, rfl, rfl, rfl, h2⟩
    | succ j =>
      obtain ⟨A, c, e0, e1, e2, e3⟩ := h3.get j t (by simpa using hj)
      refine ⟨A, c, ?_, ?_, ?_, e3⟩
      · rw [show (j + 1) * 3 = j * 3 + 3 by omega]; simpa using e0
      · rw [show (j + 1) * 3 + 1 = j * 3 + 1 + 3 by omega]; simpa using e1
      · rw [show (j + 1) * 3 + 2 = j * 3 + 2 + 3 by omega]; simpa using e2
/-- A row of types of the call's own, apart from block g. -/
theorem TySl.of_own {w : World} {base g : Nat} {b : Nat} {cap : Nat} {ts : List Ty} {cs : List Value} {gc : Array Value} (hg : w.heap[g]? = some (.cells gc 100 (0, 0))) (ho : w.ownsRow base 87 3 (.slice (some ⟨b, 0, none⟩) ts.length cap) ts.length cs) (hc : TyCells w ts cs) : TySl (less w g) (some ⟨b, 0, none⟩) cap ts := by
  rcases ho.2 with ⟨hv, _⟩ | ⟨b', cap', cur, hv, _, hb, hl, hm, _⟩
  · cases hv
  · injection hv with h1 _ h2
    obtain rfl : b = b' := by injection h1 with h1; injection h1 with h1
    subst h2
    have hne : b ≠ g := fun e => by
      rw [e, hg] at hb
      injection hb with hb
      injection hb with _ hb _
      exact absurd hb (by decide)
    refine ⟨hl, by simp only [maxLen] at hm; omega, (fun e => by cases e), fun ad e j t hj => ?_⟩
    obtain rfl := Option.some.inj e
    obtain ⟨A, c, e0, e1, e2, e3⟩ := hc.get j t hj
    have hcell : ∀ i u, cs[i]? = some u → (less w g).cell? ((⟨b, 0, none⟩ : Addr).add i) = some u := fun i u hu => by
      rw [World.cell?_of_block (w := w) (less_heap w g _ (by rw [Addr.add_block]; exact hne))]
      exact ho.cells (g := b) rfl i u hu
    exact ⟨A, c, hcell _ _ e0, hcell _ _ e1, hcell _ _ e2, e3.less hg (by decide)⟩

theorem info87 : (Tryd.prog.info? 87).map (fun i => (i.zero, i.size, i.bytes)) = some (some (.agg #[.int .i64 0, .slice none 0 0, .int .i64 0]), 3, 40) := by kernel_rfl
def base0 : Ty := ⟨0, [], 0⟩
def base1 : Ty := ⟨1, [], 0⟩
def allOf (ts : List Ty) : List Ty := base0 :: base1 :: ts
def NewPost (W : World) (ts : List Ty) (e : Ending) (w' : World) : Prop :=
  Below W.heap.size W w' ∧ ((tysOk ts ∧ ∃ g, e = .returned (.tuple #[.pointer (some ⟨g, 0, none⟩), .int .i64 0]) ∧ W.heap.size ≤ g ∧ Tab w' g (allOf ts)) ∨ (¬ tysOk ts ∧ ∃ n : Int, n ≠ 0 ∧ e = .returned (.tuple #[.pointer none, .int .i64 n])))

set_option maxHeartbeats 1000000 in
theorem new_no (A : Option Addr) (c : Nat) (ts : List Ty) (W : World) (hT : TySl W A c ts) (hm : ts.length ≤ 9223372036854775800) (hp : ∀ t ∈ ts, t.parts.length ≤ 9223372036854775800) (hok : ¬ tysOk ts) :
    Calls Tryd.prog 28 #[.slice A ts.length c] W (NewPost W ts) := by
  have HR := Lib.hid (tright_calls A c ts W hT hm hp)
  have HK := Lib.hid hok
  clear hT hp hok
  go_enter Tryd.func28, Tryd.ntmps28
  go_wp2_with fail
  refine HR.out.mono ?_
  rintro e w1 ⟨i, n, rfl, hn, hb⟩
  have HB := Lib.hid hb
  have HN := Lib.hid (show n ≠ 0 from fun h => HK.out (hn.1 h))
  have h0 : (n != 0) = true := bne_iff_ne.2 HN.out
  clear hb hn
  go_wp2
  go_ret2
  exact ⟨HB.out, .inr ⟨HK.out, n, HN.out, rfl⟩⟩
theorem ok_parts {ts : List Ty} (h : tysOk ts) : ∀ t ∈ ts, (∀ p ∈ t.parts, 0 ≤ p ∧ p < ts.length + 2) ∧ 0 ≤ t.of ∧ t.of < ts.length + 2 := fun t ht => by
  have h1 := h.2 t ht
  simp only [tyOk, Bool.and_eq_true, List.all_eq_true, thereB, decide_eq_true_eq] at h1
  exact ⟨fun p hp => h1.1.1.1.2 p hp, h1.2⟩
theorem all_parts {ts : List Ty} (h : tysOk ts) : ∀ t ∈ allOf ts, ∀ p ∈ t.parts, 0 ≤ p ∧ p < (allOf ts).length := fun t ht p hp => by
  simp only [allOf, List.mem_cons] at ht
  rcases ht with rfl | rfl | ht
  · cases hp
  · cases hp
  · have := (ok_parts h t ht).1 p hp
    simp only [allOf, List.length_cons]
    omega
theorem all_ofs {ts : List Ty} (h : tysOk ts) : ∀ t ∈ allOf ts, 0 ≤ t.of ∧ t.of < (allOf ts).length := fun t ht => by
  simp only [allOf, List.mem_cons] at ht
  rcases ht with rfl | rfl | ht
  · simp [allOf, base0]; omega
  · simp [allOf, base1]; omega
  · have := (ok_parts h t ht).2
    simp only [allOf, List.length_cons]
    omega
theorem below_of_but {W wr w' : World} {g : Nat} (h : Below W.heap.size W wr) (hb : But g wr w') (hg : W.heap.size ≤ g) : Below W.heap.size W w' :=
  h.trans ⟨hb.os, hb.tape, hb.output, hb.size, fun k hk => hb.block k (Nat.lt_of_lt_of_le hk h.size) (by omega)⟩
structure NInv (W : World) (ts : List Ty) (g : Nat) (wr : World) (k b cap : Nat) (cs : List Value) : Prop where
  tab : wr.heap[g]? = some (.cells #[.slice (some ⟨b, 0, none⟩) (k + 2) cap, .slice none 0 0] 100 (0, 0))
  own : wr.ownsRow W.heap.size 87 3 (.slice (some ⟨b, 0, none⟩) (k + 2) cap) (k + 2) cs
  cells : TyCells wr (allOf (ts.take k)) cs
  bel : Below W.heap.size W wr
  geg : W.heap.size ≤ g
theorem NInv.neb {W : World} {ts : List Ty} {g : Nat} {wr : World} {k b cap : Nat} {cs : List Value} (h : NInv W ts g wr k b cap cs) : b ≠ g ∧ b < wr.heap.size ∧ g < wr.heap.size ∧ W.heap.size ≤ b ∧ ∃ cur, wr.heap[b]? = some (.cells cur 87 (0, 0)) := by
  have hl := h.own.lt b rfl
  rcases h.own.2 with ⟨hv, _⟩ | ⟨b', cap', cur, hv, _, hb, _⟩
  · cases hv
  · injection hv with h1 _ _
    obtain rfl : b = b' := by injection h1 with h1; injection h1 with h1
    refine ⟨fun e => ?_, hl.2, (Array.getElem?_eq_some_iff.1 h.tab).1, hl.1, cur, hb⟩
    rw [e, h.tab] at hb
    injection hb with hb
    injection hb with _ hb _
    exact absurd hb (by decide)
theorem NInv.below {W : World} {ts : List Ty} {g : Nat} {wr w' : World} {k b cap : Nat} {cs : List Value} (h : NInv W ts g wr k b cap cs) (hb : Below wr.heap.size wr w') : NInv W ts g w' k b cap cs :=
  ⟨(hb.block _ (Array.getElem?_eq_some_iff.1 h.tab).1).trans h.tab, h.own.kept ⟨hb.os, hb.tape, hb.output, hb.size, fun k hk _ => hb.block k hk⟩ (row := none) (.inr (by simp [Value.ownBlock])), h.cells.keep (.of_below hb), below_then h.bel hb, h.geg⟩
theorem NInv.far {W : World} {ts : List Ty} {g : Nat} {wr : World} {k b cap : Nat} {cs : List Value} (h : NInv W ts g wr k b cap cs) {p : Addr} {gc : Array Value} (hp : wr.heap[p.block]? = some (.cells gc 87 (0, 0))) (hpb : p.block ≠ b) (hpW : W.heap.size ≤ p.block) (u : Value) : NInv W ts g (wr.setCell p u) k b cap cs :=
  ⟨by rw [heap_setCell_other _ _ _ _ (fun e => by
      rw [← e, h.tab] at hp
      injection hp with hp
      injection hp with _ hp _
      exact absurd hp (by decide))]; exact h.tab,
   h.own.kept ⟨rfl, rfl, rfl, by simp [World.setCell], fun k _ hk => Below.heap_setCell _ _ _ _ (fun e => hk (by rw [e]))⟩ (row := some p.block) (.inr (by simp [Value.ownBlock]; omega)), h.cells.keep (.of_set hp (by decide)), below_set' h.bel hpW, h.geg⟩
/-- One more type behind. -/
theorem NInv.push {W : World} {ts : List Ty} {g : Nat} {wr w5 : World} {k b cap b' cap' : Nat} {cs : List Value} (h : NInv W ts g wr k b cap cs) (hk : k < ts.length) {A : Option Addr} {c : Nat} {t : Ty} (ht : ts[k]? = some t) (hi : IntSl3 wr A c t.parts)
    (ho : w5.ownsRow W.heap.size 87 3 (.slice (some ⟨b', 0, none⟩) (k + 2 + 1) cap') (k + 2 + 1) (cs ++ [.int .i64 t.kind, .slice A t.parts.length c, .int .i64 t.of])) (hg : wr.grownBy w5 (some b)) :
    NInv W ts g (w5.setCell ⟨g, 0, none⟩ (.slice (some ⟨b', 0, none⟩) (k + 2 + 1) cap')) (k + 1) b' cap' (cs ++ [.int .i64 t.kind, .slice A t.parts.length c, .int .i64 t.of]) := by
  obtain ⟨n1, n2, n3, n4, cur, n5⟩ := h.neb
  have ht5 : w5.heap[g]? = some (.cells #[.slice (some ⟨b, 0, none⟩) (k + 2) cap, .slice none 0 0] 100 (0, 0)) := (hg.block g n3 (fun e => n1 (Option.some.inj e).symm)).trans h.tab
  have hk3 : Keep3 wr w5 := .of_grown hg n5 (by decide)
  refine ⟨?_, ?_, ?_, ?_, h.geg⟩
  · rw [heap_setCell_same w5 g 0 _ _ _ ht5]
    rfl
  · refine ho.kept ⟨rfl, rfl, rfl, by simp [World.setCell], fun k _ hk => Below.heap_setCell _ _ _ _ (fun e => hk (by rw [e]))⟩ (row := some g) (.inr ?_)
    rcases ho.2 with ⟨hv, _⟩ | ⟨b2, cap2, cur2, hv, _, hb2, _⟩
    · cases hv
    · injection hv with h1 _ _
      obtain rfl : b' = b2 := by injection h1 with h1; injection h1 with h1
      simp only [Value.ownBlock, ne_eq, Option.some.injEq]
      intro e
      rw [e, ht5] at hb2
      injection hb2 with hb2
      injection hb2 with _ hb2 _
      exact absurd hb2 (by decide)
  · have e : allOf (ts.take (k + 1)) = allOf (ts.take k) ++ [t] := by rw [List.take_add_one, ht]; rfl
    rw [e]
    exact ((h.cells.keep hk3).snoc (hi.keep hk3)).keep (.of_set ht5 (by decide))
  · exact below_set' (h.bel.grown hg h.bel.size (fun j hj => by obtain rfl := Option.some.inj hj; exact n4)) h.geg
theorem NInv.pushed {W : World} {ts : List Ty} {g : Nat} {w4 w5 : World} {k b cap b' cap' : Nat} {cs : List Value} (h : NInv W ts g w4 k b cap cs) (o : Obj) (hk : k < ts.length) {A : Option Addr} {c : Nat} {t : Ty} (ht : ts[k]? = some t) (hi : IntSl3 w4 A c t.parts)
    (ho : w5.ownsRow W.heap.size 87 3 (.slice (some ⟨b', 0, none⟩) (k + 2 + 1) cap') (k + 2 + 1) (cs ++ [.int .i64 t.kind, .slice A t.parts.length c, .int .i64 t.of])) (hg : (w4.alloc o).drew.grownBy w5 (some b)) :
    NInv W ts g (w5.setCell ⟨g, 0, none⟩ (.slice (some ⟨b', 0, none⟩) (k + 2 + 1) cap')) (k + 1) b' cap' (cs ++ [.int .i64 t.kind, .slice A t.parts.length c, .int .i64 t.of]) ∧ w5.cell? ⟨g, 0, none⟩ = some (.slice (some ⟨b, 0, none⟩) (k + 2) cap) ∧ w5.frozen? ⟨g, 0, none⟩ = false := by
  have hb : Below w4.heap.size w4 (w4.alloc o).drew := below_drew' (below_alloc' (below_refl w4))
  have h' := h.below hb
  have t0 := (hg.block g h'.neb.2.2.1 (fun e => h'.neb.1 (Option.some.inj e).symm)).trans h'.tab
  exact ⟨h'.push hk ht (hi.keep (.of_below hb)) ho hg, cell_of_row w5 g 0 _ _ _ t0, frozen_of_row w5 g 0 _ _ t0⟩
set_option maxHeartbeats 2000000 in
theorem new_yes (A : Option Addr) (c : Nat) (ts : List Ty) (W : World) (hT : TySl W A c ts) (hok : tysOk ts) :
    Calls Tryd.prog 28 #[.slice A ts.length c] W (NewPost W ts) := by
  have hl := hok.1
  have hpl : ∀ t ∈ ts, t.parts.length ≤ 12 := fun t ht => by
    have h := hok.2 t ht
    simp only [tyOk, Bool.and_eq_true, decide_eq_true_eq] at h
    have h2 := h.1.1.1.1.2
    have h3 : mostOf t.kind ≤ 12 := by
      unfold mostOf
      split
      · omega
      · split <;> omega
    omega
  have HR := Lib.hid (tright_calls A c ts W hT (by omega) (fun t ht => by have := hpl t ht; omega))
  have HK := Lib.hid hok
  have HP := Lib.hid hpl
  have HT := Lib.hid hT
  clear hT hpl hok
  go_enter Tryd.func28, Tryd.ntmps28
  go_wp2_with fail
  refine HR.out.mono ?_
  rintro e w1 ⟨i, n, rfl, hn, hb⟩
  have HB := Lib.hid hb
  obtain rfl : n = 0 := hn.2 HK.out
  clear hb hn
  go_wp2
  have HI : Hid (NInv W ts (w1.heap.size + 1) ((w1.alloc (.cells #[.int .i64 0, .slice none 0 0, .int .i64 0, .int .i64 1, .slice none 0 0, .int .i64 0] 87)).alloc (.cells #[.slice (some ⟨w1.heap.size, 0, none⟩) 2 2, .slice none 0 0] 100)) 0 w1.heap.size 2
      [.int .i64 0, .slice none 0 0, .int .i64 0, .int .i64 1, .slice none 0 0, .int .i64 0]) := by
    refine Lib.hid ⟨heap_alloc2_new _ _ _, ⟨rfl, .inr ⟨w1.heap.size, 2, _, rfl, HB.out.size, heap_alloc2_old _ _ _, Nat.le_refl _, by decide, rfl, rfl⟩⟩, ?_, below_alloc' (below_alloc' HB.out), by have := HB.out.size; omega⟩
    have hn : ∀ w : World, IntSl3 w none 0 [] := fun w => ⟨⟨Nat.le_refl _, by omega, fun _ => rfl, fun ad e => by cases e⟩, fun ad e => by cases e⟩
    exact ⟨none, 0, _, rfl, hn _, none, 0, _, rfl, hn _, rfl⟩
  generalize ((w1.alloc (.cells #[.int .i64 0, .slice none 0 0, .int .i64 0, .int .i64 1, .slice none 0 0, .int .i64 0] 87)).alloc (.cells #[.slice (some ⟨w1.heap.size, 0, none⟩) 2 2, .slice none 0 0] 100)) = w2 at *
  generalize w1.heap.size + 1 = g at *
  go_loopw [24] (fun t wr => ∃ k b cap cs, k ≤ ts.length ∧ t = .int .i64 k ∧ Hid (NInv W ts g wr k b cap cs)) (fun t _ => ts.length - (intOf t).toNat)
  case atStart => exact ⟨0, _, _, _, Nat.zero_le _, rfl, HI⟩
  case round =>
    clear HI
    obtain ⟨k, b, cap, cs, hk, rfl, HI⟩ := hrel
    by_cases hlt : k < ts.length
    · obtain ⟨ad, A', c', rfl, g0, g1, g2, g3⟩ := HT.out.get (k : Int) (by omega) (by omega)
      have hx : ts[k]? = some (tyAt ts k) := by unfold tyAt; rw [List.getD_eq_getElem?_getD, Int.toNat_natCast, List.getElem?_eq_getElem hlt]; rfl
      have hxp := HP.out _ (List.mem_of_getElem? hx)
      have HX := Lib.hid hx
      rw [Int.toNat_natCast] at g0 g1 g2
      have g0' := cell_below HI.out.bel g0
      have g1' := cell_below HI.out.bel g1
      have g2' := cell_below HI.out.bel g2
      clear hx g0 g1 g2
      generalize tyAt ts k = x at *
      obtain ⟨xk, xp, xo⟩ := x
      have HC := Lib.hid (clone_calls A' c' xp _ (g3.below (below_alloc' (o := .cells #[.int .i64 xk, .slice A' xp.length c', .int .i64 xo] 87) HI.out.bel)) (by dsimp only at hxp; omega))
      have HJ := Lib.hid (HI.out.below (below_alloc' (o := .cells #[.int .i64 xk, .slice A' xp.length c', .int .i64 xo] 87) (below_refl wr)))
      clear g3 hxp
      go_wp2_with fail
      refine HC.out.mono ?_
      rintro e w3 ⟨v, rfl, ho, hb⟩
      obtain ⟨A2, c2, rfl, hs3⟩ := ho.sl3
      obtain ⟨hc, hf⟩ := bcell hb
      have HJ3 := Lib.hid (HJ.out.below hb)
      have HS3 := Lib.hid hs3
      have HBX : Hid (w3.heap[wr.heap.size]? = some (.cells #[.int .i64 xk, .slice A' xp.length c', .int .i64 xo] 87 (0, 0))) := Lib.hid ((hb.block _ (by simp)).trans (heap_alloc_new wr _))
      clear ho hb hs3
      go_wp2
      have HJ4 := Lib.hid (HJ3.out.far (p := ⟨wr.heap.size, 1, none⟩) HBX.out (by have := HI.out.neb; simp only; omega) (by have := HI.out.bel.size; simp only; omega) (.slice A2 xp.length c2))
      have HS4 := Lib.hid (HS3.out.keep (.of_set (p := ⟨wr.heap.size, 1, none⟩) (u := .slice A2 xp.length c2) HBX.out (by decide)))
      have HBX4 : Hid ((w3.setCell ⟨wr.heap.size, 1, none⟩ (.slice A2 xp.length c2)).heap[wr.heap.size]? = some (.cells #[.int .i64 xk, .slice A2 xp.length c2, .int .i64 xo] 87 (0, 0))) := Lib.hid (by rw [heap_setCell_same _ _ _ _ _ _ HBX.out]; rfl)
      clear g0' g1' g2' hc hf HBX HS3 HJ3 HJ HC
      generalize w3.setCell ⟨wr.heap.size, 1, none⟩ (.slice A2 xp.length c2) = w4 at *
      generalize wr.heap.size = xb at *
      have q := HJ4.out
      have v0 : w4.cell? ⟨xb, 0, none⟩ = some (.int .i64 xk) := cell_of_row w4 xb 0 _ _ _ HBX4.out
      have v1 : w4.cell? ⟨xb, 1, none⟩ = some (.slice A2 xp.length c2) := cell_of_row w4 xb 1 _ _ _ HBX4.out
      have v2 : w4.cell? ⟨xb, 2, none⟩ = some (.int .i64 xo) := cell_of_row w4 xb 2 _ _ _ HBX4.out
      have v3 : w4.cell? ⟨g, 0, none⟩ = some (.slice (some ⟨b, 0, none⟩) (k + 2) cap) := cell_of_row w4 g 0 _ _ _ q.tab
      have v4 : w4.frozen? ⟨g, 0, none⟩ = false := frozen_of_row w4 g 0 _ _ q.tab
      have n1 := q.neb.1
      have n2 := q.neb.2.2.1
      have n3 := q.neb.2.1
      have n4 := World.block_lt_of_cell? w4 _ v0
      obtain ⟨i0, hi0, hz0, hz1, hz2⟩ := info_parts info87
      clear q
      go_wp2
      go_region_law ((refine step_append_lies _ (by rfl) _ _ _ (by rfl) W.heap.size 87 i0 _ 3 40 Tryd.underlying22 hi0 hz0 hz1 hz2 rfl (by omega) (.slice (some ⟨b, 0, none⟩) (k + 2) cap) (k + 2) cs (by rfl) ((HJ4.out.own.alloc _).drew) ⟨w4.heap.size, 0, none⟩ 1 1 [.int .i64 xk, .slice A2 xp.length c2, .int .i64 xo] (by rfl) (by rfl) (World.news_of_block (cs := #[.int .i64 xk, .slice A2 xp.length c2, .int .i64 xo]) (t := 87) (fr := (0, 0)) (heap_alloc_new w4 _)) (by simp [Value.oneCell']) (by omega) (by simp only [maxLen]; omega) (by omega) (by simp; have := HJ4.out.bel.size; omega) (w4.heap.size + 1) (by simp) ?_; intro gg cap' w5 hown5 hgrow hat hlt5; obtain ⟨hp5, t1, t2⟩ := HJ4.out.pushed (.cells #[.int .i64 xk, .slice A2 xp.length c2, .int .i64 xo] 87) hlt HX.out HS4.out hown5 hgrow; have HP5 := Lib.hid hp5; clear hp5 hown5 hgrow hat))
      all_goals
        go_wp2
        go_roundw
        case rel => exact ⟨k + 1, gg, cap', _, by omega, by go_num, HP5⟩
        case measure => simp [intOf]; omega
    · obtain rfl : k = ts.length := by omega
      have q := HI.out
      have hcel := q.cells
      rw [List.take_length] at hcel
      have hty := TySl.of_own (ts := allOf ts) q.tab q.own hcel
      have HTY := Lib.hid hty
      have HC := Lib.hid (classes_calls g _ _ (allOf ts) wr q.tab hty (all_parts HK.out) (all_ofs HK.out) (by simp [allOf]; omega))
      clear q hcel hty
      go_wp2_with fail
      refine HC.out.mono ?_
      rintro e w7 ⟨rfl, hbut, L, n', lc, htab⟩
      have HB7 := Lib.hid hbut
      have HT7 := Lib.hid htab
      clear hbut htab
      go_wp2
      go_ret2
      exact ⟨below_of_but HI.out.bel HB7.out HI.out.geg, .inl ⟨HK.out, g, rfl, HI.out.geg, _, _, _, _, _, HT7.out, (HTY.out.below HB7.out.less).of_less⟩⟩
/-- The table of types: of a list that may be; or none. -/
theorem new_calls (A : Option Addr) (c : Nat) (ts : List Ty) (W : World) (hT : TySl W A c ts) (hm : ts.length ≤ 9223372036854775800) (hp : ∀ t ∈ ts, t.parts.length ≤ 9223372036854775800) :
    Calls Tryd.prog 28 #[.slice A ts.length c] W (NewPost W ts) := by
  by_cases h : tysOk ts
  · exact new_yes A c ts W hT h
  · exact new_no A c ts W hT hm hp h
end Go.Proofs.YtdilmfnijkjiaaaDoor.K
