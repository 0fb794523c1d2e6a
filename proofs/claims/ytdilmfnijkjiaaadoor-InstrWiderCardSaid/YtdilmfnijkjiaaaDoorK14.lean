import Derived.Test.YtdilmfnijkjiaaaDoorK13
set_option maxRecDepth 100000
set_option linter.unusedSimpArgs false
set_option linter.unusedVariables false
namespace Go.Proofs.YtdilmfnijkjiaaaDoor.K
open Go.RowKit
/-- What a step is made of, beside its frame and its error. -/
structure SK where
  op : Int
  a : Int
  b : Int
  g : Nat
  FA : Option Addr
  nf : Nat
  fc : Nat
  lo : Int
  cd : Int
  res : Int
  LV : Value
abbrev stepCells (K : SK) (SV : Value) (err : Int) : Array Value :=
  #[.int .i64 K.op, .int .i64 K.a, .int .i64 K.b, .pointer (some ⟨K.g, 0, none⟩), .slice K.FA K.nf K.fc, .int .i64 K.lo, .int .i64 K.cd, .int .i64 K.res, K.LV, SV, .int .i64 err]
/-- The step at block s: its frame's slices are rows of its own, in blocks from base on. -/
structure SInv (base s : Nat) (K : SK) (w : World) (ls st : List Int) (err : Int) : Prop where
  ex : ∃ SV, w.heap[s]? = some (.cells (stepCells K SV err) 93 (0, 0)) ∧ OwnInts w base K.LV ls ∧ OwnInts w base SV st ∧ (K.LV.ownBlock = none ∨ K.LV.ownBlock ≠ SV.ownBlock)
theorem OwnInts.typed {w : World} {base : Nat} {v : Value} {xs : List Int} (h : OwnInts w base v xs) : ∀ k, v.ownBlock = some k → ∃ cs : Array Value, w.heap[k]? = some (Obj.cells cs 3 (0, 0)) := by
  intro k hk
  rcases h.2 with ⟨hv, _⟩ | ⟨g, cap, cur, hv, _, hg, _⟩
  · rw [hv] at hk; cases hk
  · rw [hv] at hk
    obtain rfl : g = k := Option.some.inj hk
    exact ⟨cur, hg⟩
theorem OwnInts.kept {w w' : World} {base : Nat} {v : Value} {xs : List Int} (h : OwnInts w base v xs) {row : Option Nat} (hg : w.grownBy w' row) (hne : v.ownBlock = none ∨ v.ownBlock ≠ row) : OwnInts w' base v xs := World.ownsRow.kept h hg hne
theorem grown_of_but {g : Nat} {w w' : World} (h : But g w w') : w.grownBy w' (some g) := ⟨h.os, h.tape, h.output, h.size, fun k hk hn => h.block k hk (fun e => hn (by rw [e]))⟩
theorem grown_of_below {w w' : World} (h : Below w.heap.size w w') : w.grownBy w' none := ⟨h.os, h.tape, h.output, h.size, fun k hk _ => h.block k hk⟩
theorem OwnInts.below {w w' : World} {base : Nat} {v : Value} {xs : List Int} (h : OwnInts w base v xs) (hb : Below w.heap.size w w') : OwnInts w' base v xs := h.kept (grown_of_below hb) (by cases v.ownBlock <;> simp)
theorem SInv.below {base s : Nat} {K : SK} {w w' : World} {ls st : List Int} {err : Int} (h : SInv base s K w ls st err) (hb : Below w.heap.size w w') : SInv base s K w' ls st err := by
  obtain ⟨SV, h1, h2, h3, h4⟩ := h.ex
  exact ⟨SV, (hb.block s (Array.getElem?_eq_some_iff.1 h1).1).trans h1, h2.below hb, h3.below hb, h4⟩
theorem SInv.lt {base s : Nat} {K : SK} {w : World} {ls st : List Int} {err : Int} (h : SInv base s K w ls st err) : s < w.heap.size := by
  obtain ⟨SV, h1, _⟩ := h.ex
  exact (Array.getElem?_eq_some_iff.1 h1).1
theorem OwnInts.ne_s {w : World} {base s : Nat} {v : Value} {xs : List Int} (h : OwnInts w base v xs) {cs : Array Value} (hs : w.heap[s]? = some (.cells cs 93 (0, 0))) : v.ownBlock = none ∨ v.ownBlock ≠ some s := by
  cases hv : v.ownBlock with
  | none => exact .inl rfl
  | some k =>
    refine .inr fun e => ?_
    obtain rfl := Option.some.inj e
    obtain ⟨cs', hk⟩ := h.typed k hv
    rw [hs] at hk
    injection hk with hk
    injection hk with _ hk _
    exact absurd hk (by decide)

set_option maxHeartbeats 400000 in
theorem fail_calls (base s : Nat) (K : SK) (e0 : Int) (w : World) (ls st : List Int) (err : Int) (h : SInv base s K w ls st err) :
    Calls Tryd.prog 100 #[.pointer (some ⟨s, 0, none⟩), .int .i64 e0] w fun e w' => e = .returned (.tuple #[]) ∧ SInv base s K w' ls st (if err = 0 then e0 else err) ∧ But s w w' := by
  obtain ⟨SV, h1, h2, h3, h4⟩ := h.ex
  have c10 : w.cell? ⟨s, 10, none⟩ = some (.int .i64 err) := cell_of_row w s 10 _ _ _ h1
  have f10 := frozen_of_row w s 10 _ _ h1
  by_cases he : err = 0
  · subst he
    have HB := Lib.hid ((But.refl s w).set (p := ⟨s, 10, none⟩) (u := .int .i64 e0) (.inl rfl))
    have HI : Hid (SInv base s K (w.setCell ⟨s, 10, none⟩ (.int .i64 e0)) ls st e0) :=
      Lib.hid ⟨SV, by rw [heap_setCell_same _ _ _ _ _ _ h1]; rfl, h2.kept (grown_of_but HB.out) (h2.ne_s h1), h3.kept (grown_of_but HB.out) (h3.ne_s h1), h4⟩
    clear h h1 h2 h3 h4
    go_enter Tryd.func100, Tryd.ntmps100
    go_wp2
    exact bodyPost_end (results_none rfl _ _ _) rfl ⟨rfl, HI.out, HB.out⟩
  · have he' : (err == 0) = false := beq_eq_false_iff_ne.2 he
    rw [if_neg he]
    have HI := Lib.hid h
    clear h h1 h2 h3 h4 he
    go_enter Tryd.func100, Tryd.ntmps100
    go_wp2
    exact bodyPost_end (results_none rfl _ _ _) rfl ⟨rfl, HI.out, But.refl s w⟩

set_option maxHeartbeats 400000 in
theorem put_calls (base s : Nat) (K : SK) (B : Option Addr) (c : Nat) (ys : List Int) (w : World) (ls st : List Int) (err : Int) (h : SInv base s K w ls st err) (hy : IntSl w B c ys) (hl : (st.length + ys.length) * 8 ≤ 140737488355328) (hb : base ≤ w.heap.size) :
    Calls Tryd.prog 99 #[.pointer (some ⟨s, 0, none⟩), .slice B ys.length c] w fun e w' => e = .returned (.tuple #[]) ∧ SInv base s K w' ls (st ++ ys) err ∧ w.heap.size ≤ w'.heap.size ∧ (∀ k, k < w.heap.size → k < base → k ≠ s → w'.heap[k]? = w.heap[k]?) ∧ w'.os = w.os ∧ w'.tape = w.tape ∧ w'.output = w.output := by
  obtain ⟨SV, h1, h2, h3, h4⟩ := h.ex
  have c9 : w.cell? ⟨s, 9, none⟩ = some SV := cell_of_row w s 9 _ _ _ h1
  have H1 := Lib.hid h1
  have H2 := Lib.hid h2
  have H3 := Lib.hid h3
  have H4 := Lib.hid h4
  have HY := Lib.hid hy
  clear h h1 h2 h3 h4 hy
  go_enter Tryd.func99, Tryd.ntmps99
  go_wp2_with (at_builtin; refine app_ints _ rfl _ _ rfl base SV st rfl H3.out _ _ ys rfl HY.out hl hb ?_)
  intro v' w1 hown hgr hat
  obtain ⟨VA, vc, rfl, _⟩ := hown.sl
  rw [List.length_append] at hown hat
  have HO := Lib.hid hown
  have HG := Lib.hid hgr
  have HA := Lib.hid hat
  have b1 : w1.heap[s]? = some (.cells (stepCells K SV err) 93 (0, 0)) := (HG.out.block s (Array.getElem?_eq_some_iff.1 H1.out).1 (by
    rcases H3.out.ne_s H1.out with e | e
    · rw [e]; simp
    · exact Ne.symm e)).trans H1.out
  have d9 : w1.cell? ⟨s, 9, none⟩ = some SV := cell_of_row w1 s 9 _ _ _ b1
  have f9 := frozen_of_row w1 s 9 _ _ b1
  have HB1 := Lib.hid b1
  clear hown hgr hat b1
  go_wp2
  refine bodyPost_end (results_none rfl _ _ _) rfl ⟨rfl, ⟨_, by rw [heap_setCell_same _ _ _ _ _ _ HB1.out]; rfl, ?_, ?_, ?_⟩, ?_, ?_, HG.out.os, HG.out.tape, HG.out.output⟩
  · exact ((H2.out.kept HG.out H4.out).kept (grown_of_but ((But.refl s w1).set (p := ⟨s, 9, none⟩) (.inl rfl))) ((H2.out.kept HG.out H4.out).ne_s HB1.out))
  · exact HO.out.kept (grown_of_but ((But.refl s w1).set (p := ⟨s, 9, none⟩) (.inl rfl))) (HO.out.ne_s HB1.out)
  · cases hL : K.LV.ownBlock with
    | none => exact .inl rfl
    | some k =>
      refine .inr ?_
      have hk := (OwnInts.block H2.out k hL).2
      rcases HA.out with e | e
      · rw [e]
        rcases H4.out with e2 | e2
        · rw [e2] at hL; cases hL
        · rw [← hL]; exact e2
      · rw [e]
        intro e2
        have := Option.some.inj e2
        omega
  · simp only [World.setCell, Array.size_modify]
    exact HG.out.size
  · intro k hk hkb hks
    rw [Below.heap_setCell _ _ _ _ hks]
    refine HG.out.block k hk (fun e => ?_)
    have := (OwnInts.block H3.out k e.symm).1
    omega
end Go.Proofs.YtdilmfnijkjiaaaDoor.K
