import Derived.Test.YtdilmfnijkjiaaaDoorK74
import Derived.Deep.AppendLies
import Derived.Deep.RegionLaw
import Derived.Deep.Upon
set_option maxRecDepth 100000
set_option linter.unusedSimpArgs false
set_option linter.unusedVariables false
namespace Go.Proofs.YtdilmfnijkjiaaaDoor.K
open Go.RowKit
/-- NOTHING IS APPENDED, as one step of a region that draws. -/
theorem step_append_nothing {P : Program} {ops : Array Oper} {o : Oper} {a : Act} {w : World} {K : Act → World → Prop} {Q : Exit → Act → World → Prop} {E : Prop}
    (hg : o.guard = none) (s x : Operand) (t : TypeId) (hop : o.op = Op.call { callee := Callee.builtin Builtin.append, args := #[s, x], argTypes := #[t, t] })
    (e : TypeId) (i : TypeInfo) (h1 : P.underlying t = some (.slice e)) (h2 : P.info? e = some i)
    (base : Option Addr) (n cap : Nat) (hle : n ≤ cap) (hs : a.eval s = .slice base n cap) (v : Value) (hx : a.eval x = v) (hsrc : Src P i.size t v 0 [] w)
    (hK : K (a.put o.dst (.slice base n cap)) w) :
    if Region.wanted o (yielded ops a.tmps) = true then Oper.wp P o a w K Q else E := by
  rw [if_pos (by simp [Region.wanted, hg])]
  have hrun := run_append_nothing w t t o.type e i h1 h2 base n cap hle v hsrc
  unfold Oper.wp
  simp [execOp, hop, resolve, invoke, builtin, hs, hx, hrun, Result.andThen]
  exact hK
theorem src_empty {P : Program} {size : Nat} {t e : TypeId} (h : P.underlying t = some (.slice e)) (F : Option Addr) (c : Nat) (w : World) : Src P size t (.slice F 0 c) 0 [] w := by
  cases F with
  | none => exact Src.ofNil w h c
  | some a => exact Src.ofSlice w h a 0 c [] (by simp) (by simp) (by simp)
theorem belowB_up {n m k : Int} (h : belowB n m = true) (hk : m ≤ k) : belowB n k = true := by
  simp only [belowB, Bool.and_eq_true, decide_eq_true_eq] at h ⊢
  omega
theorem right_up {r : Rw} {ts : List Ty} {nf nf2 : Nat} {lo cd lo2 cd2 a b : Int} (h : rightR r ts nf lo cd a b = true) (h1 : lo ≤ lo2) (h2 : cd ≤ cd2) (h3 : nf ≤ nf2) : rightR r ts nf2 lo2 cd2 a b = true := by
  have h4 : (nf : Int) ≤ (nf2 : Int) := by omega
  unfold rightR at h ⊢
  by_cases hc : twoB r.form = false ∧ b ≠ 0
  · rw [if_pos hc] at h; cases h
  rw [if_neg hc] at h ⊢
  by_cases e0 : r.form = 0
  · rw [if_pos e0] at h ⊢; exact h
  rw [if_neg e0] at h ⊢
  by_cases e1 : r.form = 1
  · rw [if_pos e1] at h ⊢; exact h
  rw [if_neg e1] at h ⊢
  by_cases e2 : r.form = 2
  · rw [if_pos e2] at h ⊢; exact h
  rw [if_neg e2] at h ⊢
  by_cases e3 : r.form = 3
  · rw [if_pos e3] at h ⊢; exact belowB_up h h1
  rw [if_neg e3] at h ⊢
  by_cases e4 : r.form = 4
  · rw [if_pos e4] at h ⊢; exact belowB_up h h2
  rw [if_neg e4] at h ⊢
  by_cases e5 : r.form = 5
  · rw [if_pos e5] at h ⊢; exact belowB_up h h4
  rw [if_neg e5] at h ⊢
  by_cases e9 : r.form = 9
  · rw [if_pos e9] at h ⊢; exact h
  rw [if_neg e9] at h ⊢
  by_cases e6 : r.form = 6
  · rw [if_pos e6] at h ⊢; exact h
  rw [if_neg e6] at h ⊢
  by_cases e7 : r.form = 7
  · rw [if_pos e7] at h ⊢; exact h
  rw [if_neg e7] at h ⊢
  by_cases e8 : r.form = 8
  · rw [if_pos e8] at h ⊢
    rw [Bool.and_eq_true] at h ⊢
    exact ⟨h.1, belowB_up h.2 h4⟩
  · rw [if_neg e8] at h; cases h
theorem fnAt_up {fs : List Fn} {f : Fn} {n : Int} (h0 : 0 ≤ n) (h1 : n < fs.length) : fnAt (fs ++ [f]) n = fnAt fs n := by
  unfold fnAt
  rw [List.getD_eq_getElem?_getD, List.getD_eq_getElem?_getD, List.getElem?_append_left (by omega)]
theorem sel20' {op : Int} {ts : List Ty} {nf : Nat} {locals code a b : Int} (ho : op = 20) (h : rightR (rowOf op) ts nf locals code a b = true) : 0 ≤ a ∧ a < nf := by
  subst ho
  have e : (rowOf 20).form = 5 := by decide
  unfold rightR at h
  rw [e] at h
  split at h
  · cases h
  · have h2 : belowB a nf = true := by simpa using h
    simpa [belowB] using h2
theorem sel29' {op : Int} {ts : List Ty} {nf : Nat} {locals code a b : Int} (ho : op = 29) (h : rightR (rowOf op) ts nf locals code a b = true) : 0 ≤ b ∧ b < nf := by
  subst ho
  have e : (rowOf 29).form = 8 := by decide
  unfold rightR at h
  rw [e] at h
  split at h
  · cases h
  · have h2 : (kOf ts a == (rowOf 29).kind && belowB b nf) = true := by simpa using h
    rw [Bool.and_eq_true] at h2
    simpa [belowB] using h2.2
theorem eff_up {op a b lo cd lo2 cd2 : Int} {ts : List Ty} {fs : List Fn} {f : Fn} (h : rightR (rowOf op) ts fs.length lo cd a b = true) (h1 : lo ≤ lo2) (h2 : cd ≤ cd2) :
    rightR (rowOf op) ts (fs ++ [f]).length lo2 cd2 a b = true ∧ effB (rowOf op) ts (fs ++ [f]) lo2 cd2 op a b = effB (rowOf op) ts fs lo cd op a b := by
  have hr : rightR (rowOf op) ts (fs ++ [f]).length lo2 cd2 a b = true := right_up h h1 h2 (by simp)
  refine ⟨hr, ?_⟩
  unfold effB
  rw [if_pos hr, if_pos h]
  unfold effR
  by_cases c1 : op = 20
  · obtain ⟨q1, q2⟩ := sel20' c1 h
    rw [if_pos c1, if_pos c1, fnAt_up q1 q2]
  rw [if_neg c1, if_neg c1]
  by_cases c2 : op = 22
  · rw [if_pos c2, if_pos c2]
  rw [if_neg c2, if_neg c2]
  by_cases c3 : op = 29
  · obtain ⟨q1, q2⟩ := sel29' c3 h
    rw [if_pos c3, if_pos c3, fnAt_up q1 q2]
  rw [if_neg c3, if_neg c3]
/-- The cells of a row of functions. -/
def fnVals (w : World) (ad : Addr) (n : Nat) : List Value := (List.range (n * 4)).map fun j => (w.cell? (ad.add j)).getD undef
theorem fnVals_len (w : World) (ad : Addr) (n : Nat) : (fnVals w ad n).length = n * 4 := by simp [fnVals]
theorem fn_cell {w : World} {ad : Addr} {c : Nat} {fs : List Fn} (h : FnSl w (some ad) c fs) (j : Nat) (hj : j < fs.length * 4) : ∃ v, w.cell? (ad.add j) = some v ∧ v.oneCell' = true := by
  have hq : j / 4 < fs.length := by omega
  obtain ⟨A, c', B, n, d, g0, g1, g2, g3, -, -⟩ := h.2.2.2 ad rfl (j / 4) _ (List.getElem?_eq_getElem hq)
  have hr : j % 4 = 0 ∨ j % 4 = 1 ∨ j % 4 = 2 ∨ j % 4 = 3 := by omega
  rcases hr with e | e | e | e
  · rw [show j / 4 * 4 = j by omega] at g0; exact ⟨_, g0, rfl⟩
  · rw [show j / 4 * 4 + 1 = j by omega] at g1; exact ⟨_, g1, rfl⟩
  · rw [show j / 4 * 4 + 2 = j by omega] at g2; exact ⟨_, g2, rfl⟩
  · rw [show j / 4 * 4 + 3 = j by omega] at g3; exact ⟨_, g3, rfl⟩
theorem fnVals_get {w : World} {ad : Addr} {c : Nat} {fs : List Fn} (h : FnSl w (some ad) c fs) (j : Nat) (u : Value) (hu : (fnVals w ad fs.length)[j]? = some u) : w.cell? (ad.add j) = some u ∧ u.oneCell' = true := by
  have hj := (List.getElem?_eq_some_iff.1 hu).1
  rw [fnVals_len] at hj
  obtain ⟨v, hv, h1⟩ := fn_cell h j hj
  unfold fnVals at hu
  rw [List.getElem?_map, List.getElem?_range hj] at hu
  simp only [Option.map_some, Option.some.injEq] at hu
  rw [hv] at hu
  obtain rfl : v = u := hu
  exact ⟨hv, h1⟩
theorem fnVals_at {w : World} {ad : Addr} {c : Nat} {fs : List Fn} (h : FnSl w (some ad) c fs) (j : Nat) (v : Value) (hj : j < fs.length * 4) (hv : w.cell? (ad.add j) = some v) : (fnVals w ad fs.length)[j]? = some v := by
  unfold fnVals
  rw [List.getElem?_map, List.getElem?_range hj]
  simp [hv]
abbrev fnCells (PA : Option Addr) (pc n : Nat) (re lc : Int) (CA : Option Addr) (cn cc : Nat) : List Value := [.slice PA n pc, .int .i64 re, .int .i64 lc, .slice CA cn cc]
theorem fnsl_of_row {w W : World} {ad gd : Addr} {c cap : Nat} {fs : List Fn} {PA CA : Option Addr} {pc cn cc : Nat} {ps : List Int} {re lc : Int} (h : FnSl w (some ad) c fs) (hb : Below w.heap.size w W)
    (hrow : ∀ j u, (fnVals w ad fs.length ++ fnCells PA pc ps.length re lc CA cn cc)[j]? = some u → W.cell? (gd.add j) = some u) (hP : IntSl w PA pc ps) (hpl : ps.length * 8 ≤ 140737488351232) (hcap : fs.length + 1 ≤ cap) (hcm : cap ≤ 9223372036854775807) :
    FnSl W (some gd) cap (fs ++ [⟨ps, re, lc, []⟩]) := by
  refine ⟨by simpa using hcap, hcm, (fun e => by cases e), fun a2 e2 j f hf => ?_⟩
  obtain rfl := Option.some.inj e2
  have hlen := fnVals_len w ad fs.length
  rcases Nat.lt_or_ge j fs.length with hj | hj
  · rw [List.getElem?_append_left hj] at hf
    obtain ⟨A, c', B, n, d, g0, g1, g2, g3, g4, g5⟩ := h.2.2.2 ad rfl j f hf
    have hg : ∀ i v, i < 4 → w.cell? (ad.add (j * 4 + i)) = some v → W.cell? (gd.add (j * 4 + i)) = some v := fun i v hi hv => hrow _ _ (by
      rw [List.getElem?_append_left (by rw [hlen]; omega)]
      exact fnVals_at h _ _ (by omega) hv)
    exact ⟨A, c', B, n, d, hg 0 _ (by omega) g0, hg 1 _ (by omega) g1, hg 2 _ (by omega) g2, hg 3 _ (by omega) g3, g4.below hb, g5⟩
  · have hjl := (List.getElem?_eq_some_iff.1 hf).1
    obtain rfl : j = fs.length := by simp at hjl; omega
    rw [List.getElem?_append_right (Nat.le_refl _), Nat.sub_self] at hf
    obtain rfl : (⟨ps, re, lc, []⟩ : Fn) = f := by simpa using hf
    have hg : ∀ i v, (fnCells PA pc ps.length re lc CA cn cc)[i]? = some v → W.cell? (gd.add (fs.length * 4 + i)) = some v := fun i v hv => hrow _ _ (by
      rw [List.getElem?_append_right (by rw [hlen]; omega), hlen, show fs.length * 4 + i - fs.length * 4 = i by omega]
      exact hv)
    exact ⟨PA, pc, CA, cn, cc, hg 0 _ rfl, hg 1 _ rfl, hg 2 _ rfl, hg 3 _ rfl, hP.below hb, by omega⟩

theorem info83 : (Tryd.prog.info? 83).map (fun i => (i.zero, i.size, i.bytes)) = some (some (.agg #[.slice none 0 0, .int .i64 0, .int .i64 0, .slice none 0 0]), 4, 64) := by kernel_rfl
theorem own_empty (w : World) (base : Nat) (h : base ≤ w.heap.size) : (w.alloc (.cells #[] 83)).drew.ownsRow base 83 4 (.slice (some ⟨w.heap.size, 0, none⟩) 0 0) 0 [] := by
  refine ⟨rfl, .inr ⟨w.heap.size, 0, #[], rfl, h, ?_, Nat.le_refl _, by decide, rfl, rfl⟩⟩
  exact heap_alloc_new w (.cells #[] 83)
theorem own_empty2 (w : World) (base : Nat) (o : Obj) (h : base ≤ w.heap.size) : ((w.alloc (.cells #[] 83)).alloc o).drew.ownsRow base 83 4 (.slice (some ⟨w.heap.size, 0, none⟩) 0 0) 0 [] := by
  refine ⟨rfl, .inr ⟨w.heap.size, 0, #[], rfl, h, ?_, Nat.le_refl _, by decide, rfl, rfl⟩⟩
  exact (heap2' w (.cells #[] 83) o).1
theorem own_empty3 (w : World) (base : Nat) (o : Obj) (h : base ≤ w.heap.size) : ((w.alloc o).alloc (.cells #[] 83)).drew.ownsRow base 83 4 (.slice (some ⟨w.heap.size + 1, 0, none⟩) 0 0) 0 [] := by
  refine ⟨rfl, .inr ⟨w.heap.size + 1, 0, #[], rfl, by omega, ?_, Nat.le_refl _, by decide, rfl, rfl⟩⟩
  exact (heap2' w o (.cells #[] 83)).2
theorem own_cells {w : World} {base g n cap : Nat} {xs : List Value} (h : w.ownsRow base 83 4 (.slice (some ⟨g, 0, none⟩) n cap) n xs) : base ≤ g ∧ n ≤ cap ∧ cap ≤ 9223372036854775807 ∧ ∃ cur : Array Value, w.heap[g]? = some (.cells cur 83 (0, 0)) ∧ ∀ (j : Nat) (u : Value), xs[j]? = some u → cur[j]? = some u := by
  rcases h.2 with ⟨hv, _⟩ | ⟨g', cap', cur, hv, hb, hg, h1, h2, h3, h4⟩
  · cases hv
  · injection hv with e1 e2 e3
    injection e1 with e1
    injection e1 with e1 _ _
    subst e1; subst e3
    refine ⟨hb, h1, h2, cur, hg, fun j u hu => ?_⟩
    rw [← h4] at hu
    have hj := (List.getElem?_eq_some_iff.1 hu).1
    rw [List.length_take] at hj
    rw [List.getElem?_take_of_lt (by omega)] at hu
    simpa using hu
theorem fn_row {w2 w6 : World} {ad : Addr} {c b11 B g6 cap6 : Nat} {fs : List Fn} {PA CA : Option Addr} {pc cn cc : Nat} {ps : List Int} {re lc : Int} {u : Value} (h : FnSl w2 (some ad) c fs) (hb : Below w2.heap.size w2 w6) (h11 : w2.heap.size ≤ b11) (hlt : b11 < B)
    (hown : w6.ownsRow B 83 4 (.slice (some ⟨g6, 0, none⟩) (fs.length + 1) cap6) (fs.length + 1) (fnVals w2 ad fs.length ++ fnCells PA pc ps.length re lc CA cn cc)) (hP : IntSl w2 PA pc ps) (hpl : ps.length * 8 ≤ 140737488351232) :
    FnSl (w6.setCell ⟨b11, 1, none⟩ u) (some ⟨g6, 0, none⟩) cap6 (fs ++ [⟨ps, re, lc, []⟩]) := by
  obtain ⟨hB, hc1, hc2, cur, hg, hcur⟩ := own_cells hown
  have hg2 : (w6.setCell ⟨b11, 1, none⟩ u).heap[g6]? = some (.cells cur 83 (0, 0)) := (Below.heap_setCell _ _ _ _ (by show g6 ≠ b11; omega)).trans hg
  refine fnsl_of_row (CA := CA) (cn := cn) (cc := cc) h (hb.setCell (p := ⟨b11, 1, none⟩) h11 u) (fun j v hv => ?_) hP hpl hc1 hc2
  rw [add_zero_off, cell_of_row _ _ _ _ _ _ hg2]
  exact hcur j v hv
theorem fn_row0 {w2 w6 : World} {b11 B g6 cap6 : Nat} {PA CA : Option Addr} {pc cn cc : Nat} {ps : List Int} {re lc : Int} {u : Value} (hb : Below w2.heap.size w2 w6) (h11 : w2.heap.size ≤ b11) (hlt : b11 < B)
    (hown : w6.ownsRow B 83 4 (.slice (some ⟨g6, 0, none⟩) 1 cap6) 1 (fnCells PA pc ps.length re lc CA cn cc)) (hP : IntSl w2 PA pc ps) (hpl : ps.length * 8 ≤ 140737488351232) :
    FnSl (w6.setCell ⟨b11, 1, none⟩ u) (some ⟨g6, 0, none⟩) cap6 (([] : List Fn) ++ [⟨ps, re, lc, []⟩]) :=
  fn_row (CA := CA) (cn := cn) (cc := cc) (re := re) (lc := lc) (fs := []) (ad := ⟨0, 0, none⟩) (c := 0) (show FnSl w2 (some ⟨0, 0, none⟩) 0 [] from ⟨by simp, by omega, (fun e => by cases e), fun ad e j f hf => by simp at hf⟩) hb h11 hlt hown hP hpl
set_option maxHeartbeats 16000000 in
theorem instrWider_calls (A : Option Addr) (c : Nat) (ts : List Ty) (F : Option Addr) (fc : Nat) (fs : List Fn) (lo cd : Int) (op a b : Int) (PA : Option Addr) (pc : Nat) (ps : List Int) (re lc : Int) (CA : Option Addr) (cn cc : Nat) (w : World) (hE : Env w)
    (hT : TySl w A c ts) (hm : ts.length * 40 ≤ 140737488351232) (hp : ∀ t ∈ ts, t.parts.length * 8 ≤ 140737488351232) (ho : ∀ t ∈ ts, t.of ≤ 9223372036854775807) (hF : FnSl w F fc fs) (hfm : fs.length * 64 ≤ 140737488351232) (hfi : ∀ f ∈ fs, FnIn f)
    (hlo : lo ≤ 9223372036854775807 ∧ -9223372036854775808 ≤ lo) (hcd : cd ≤ 9223372036854775807 ∧ -9223372036854775808 ≤ cd) (hin : InsIn ⟨op, a, b⟩) (hPS : IntSl w PA pc ps) (hpl : ps.length * 8 ≤ 140737488351232) :
    Calls Tryd.prog 17 #[.agg #[.slice A ts.length c, .slice F fs.length fc, .int .i64 lo, .int .i64 cd], .agg #[.int .i64 op, .int .i64 a, .int .i64 b], .agg #[.slice PA ps.length pc, .int .i64 re, .int .i64 lc, .slice CA cn cc]] w fun e w' => e = .returned (.bool true) ∧ Below w.heap.size w w' := by
  have hB0 : Below w.heap.size w (((w.alloc (.cells #[.slice A ts.length c, .slice F fs.length fc, .int .i64 lo, .int .i64 cd] 76)).alloc (.cells #[.int .i64 op, .int .i64 a, .int .i64 b] 27)).alloc (.cells #[.slice PA ps.length pc, .int .i64 re, .int .i64 lc, .slice CA cn cc] 83)) := below_alloc' (below_alloc' (below_alloc' (below_refl w)))
  have hrow0 := heap3' w (.cells #[.slice A ts.length c, .slice F fs.length fc, .int .i64 lo, .int .i64 cd] 76) (.cells #[.int .i64 op, .int .i64 a, .int .i64 b] 27) (.cells #[.slice PA ps.length pc, .int .i64 re, .int .i64 lc, .slice CA cn cc] 83)
  have HS := Lib.hid (shownI_calls _ (hE.below hB0))
  have R0 := Lib.hid hrow0.1
  have RI := Lib.hid hrow0.2.1
  have RF := Lib.hid hrow0.2.2
  have HT := Lib.hid (hT.below hB0)
  have HF := Lib.hid (hF.below hB0)
  have HPS := Lib.hid (hPS.below hB0)
  have HBx := Lib.hid hB0
  have HM := Lib.hid hm
  have HP := Lib.hid hp
  have HO := Lib.hid ho
  have HFM := Lib.hid hfm
  have HLO := Lib.hid hlo
  have HCD := Lib.hid hcd
  have hfl : fs.length ≤ 9223372036854775807 := by omega
  clear hB0 hrow0 hT hm hp ho hF hfm hfi hlo hcd hE hin hPS
  go_enter Tryd.func17, Tryd.ntmps17
  go_wp2_with fail
  refine HS.out.mono ?_
  rintro e w1 ⟨rfl, hb⟩
  have HB1 := Lib.hid (below_then HBx.out hb)
  have HT1 := Lib.hid (HT.out.below hb)
  have HF1 := Lib.hid (HF.out.below hb)
  have HPS1 := Lib.hid (HPS.out.below hb)
  have R0a := Lib.hid ((hb.block _ (Array.getElem?_eq_some_iff.1 R0.out).1).trans R0.out)
  have RIa := Lib.hid ((hb.block _ (Array.getElem?_eq_some_iff.1 RI.out).1).trans RI.out)
  have RFa := Lib.hid ((hb.block _ (Array.getElem?_eq_some_iff.1 RF.out).1).trans RF.out)
  obtain ⟨c0, c1, c2, c3⟩ := cells4' R0a.out
  clear hb HS HT HF R0 RI HBx RF HPS
  have HSC := Lib.hid (scopes4_calls A c ts F fc fs.length lo cd w1 HT1.out HM.out HP.out HO.out)
  unfold Sc4Post at HSC
  go_wp2_with fail
  refine HSC.out.mono ?_
  rintro e w2 ⟨tv, ok, rfl, hb, hok⟩
  have HB2 := Lib.hid (below_then HB1.out hb)
  have HF2 := Lib.hid (HF1.out.below hb)
  have HPS2 := Lib.hid (HPS1.out.below hb)
  have R0b := Lib.hid ((hb.block _ (Array.getElem?_eq_some_iff.1 R0a.out).1).trans R0a.out)
  have RIb := Lib.hid ((hb.block _ (Array.getElem?_eq_some_iff.1 RIa.out).1).trans RIa.out)
  have RFb := Lib.hid ((hb.block _ (Array.getElem?_eq_some_iff.1 RFa.out).1).trans RFa.out)
  have HOK := Lib.hid hok
  clear hb HSC HT1 HF1 HB1 hok c0 c1 c2 c3 R0a RIa RFa HPS1
  cases ok with
  | false =>
    go_wp2_with fail
    go_ret
    exact ⟨rfl, below_alloc' (below_alloc' HB2.out)⟩
  | true =>
    obtain ⟨g, rfl, hty, htab⟩ := HOK.out rfl
    clear HOK
    have hrow := heap3' w2 (.cells #[.pointer (some ⟨g, 0, none⟩), .slice F fs.length fc, .int .i64 lo, .int .i64 cd] 34) (.cells #[.slice A ts.length c, .slice F fs.length fc, .int .i64 lo, .int .i64 cd] 36) (.cells #[.pointer (some ⟨g, 0, none⟩), .slice F fs.length fc, .int .i64 (lo + 1), .int .i64 (cd + 1)] 34)
    have hB3 : Below w2.heap.size w2 (((w2.alloc (.cells #[.pointer (some ⟨g, 0, none⟩), .slice F fs.length fc, .int .i64 lo, .int .i64 cd] 34)).alloc (.cells #[.slice A ts.length c, .slice F fs.length fc, .int .i64 lo, .int .i64 cd] 36)).alloc (.cells #[.pointer (some ⟨g, 0, none⟩), .slice F fs.length fc, .int .i64 (lo + 1), .int .i64 (cd + 1)] 34)) := below_alloc' (below_alloc' (below_alloc' (below_refl w2)))
    have HBY := Lib.hid (below_alloc' (o := .cells #[.slice A ts.length c, .slice F fs.length fc, .int .i64 lo, .int .i64 cd] 36) (below_alloc' (o := .cells #[.pointer (some ⟨g, 0, none⟩), .slice F fs.length fc, .int .i64 lo, .int .i64 cd] 34) HB2.out))
    have R34 := Lib.hid hrow.1
    have R11 := Lib.hid hrow.2.2
    have HB38 := Lib.hid hB3
    have HBN2 := Lib.hid HB2.out
    have HF2w := Lib.hid HF2.out
    have HPS2w := Lib.hid HPS2.out
    have HB3 := Lib.hid (below_then HB2.out hB3)
    have HF3 := Lib.hid (HF2.out.below hB3)
    have HPS3 := Lib.hid (HPS2.out.below hB3)
    have HTT := Lib.hid (htab.below hB3)
    have HTY := Lib.hid hty
    have R0c := Lib.hid ((hB3.block _ (Array.getElem?_eq_some_iff.1 R0b.out).1).trans R0b.out)
    have RIc := Lib.hid ((hB3.block _ (Array.getElem?_eq_some_iff.1 RIb.out).1).trans RIb.out)
    have RFc := Lib.hid ((hB3.block _ (Array.getElem?_eq_some_iff.1 RFb.out).1).trans RFb.out)
    have hlt2 : w.heap.size + 1 + 1 < w2.heap.size := (Array.getElem?_eq_some_iff.1 RFb.out).1
    have HL2 := Lib.hid hlt2
    obtain ⟨e0, e1, e2, e3⟩ := cells4' R0b.out
    have hzz : w.heap.size < w2.heap.size := by omega
    clear hrow hB3 hty htab HF2 HB2 R0b RIb RFb hlt2 HPS2
    have hp4 := parts_le4 HP.out a
    have HP4 := Lib.hid hp4
    clear hp4
    by_cases hlo1 : 1000 < lo
    · go_wp2_with fail
      go_ret
      exact ⟨rfl, HBY.out⟩
    by_cases hcd1 : 1000 < cd
    · go_wp2_with fail
      go_ret
      exact ⟨rfl, HBY.out⟩
    have hw1 : wrap64 (lo + 1) = lo + 1 := by have := HLO.out; unfold wrap64; omega
    have hw2 : wrap64 (cd + 1) = cd + 1 := by have := HCD.out; unfold wrap64; omega
    go_wp2_with fail
    clear e0 e1 e2 e3 hzz HBY hw1 hw2 hlo1 hcd1
    have hs8 : (((w2.alloc (.cells #[.pointer (some ⟨g, 0, none⟩), .slice F fs.length fc, .int .i64 lo, .int .i64 cd] 34)).alloc (.cells #[.slice A ts.length c, .slice F fs.length fc, .int .i64 lo, .int .i64 cd] 36)).alloc (.cells #[.pointer (some ⟨g, 0, none⟩), .slice F fs.length fc, .int .i64 (lo + 1), .int .i64 (cd + 1)] 34)).heap.size = w2.heap.size + 3 := by simp
    have HS8 := Lib.hid hs8
    clear hs8
    generalize ((w2.alloc (.cells #[.pointer (some ⟨g, 0, none⟩), .slice F fs.length fc, .int .i64 lo, .int .i64 cd] 34)).alloc (.cells #[.slice A ts.length c, .slice F fs.length fc, .int .i64 lo, .int .i64 cd] 36)).alloc (.cells #[.pointer (some ⟨g, 0, none⟩), .slice F fs.length fc, .int .i64 (lo + 1), .int .i64 (cd + 1)] 34) = w8 at *
    obtain ⟨k0, k1, k2, k3⟩ := cells4' R34.out
    obtain ⟨l0, l1, l2, l3⟩ := cells4' R11.out
    obtain ⟨m0, m1, m2, m3⟩ := cells4' RFc.out
    have fz1 := frozen_of_row w8 (w2.heap.size + 1 + 1) 1 _ _ R11.out
    have hz1 : w2.heap.size < w8.heap.size := by have := HS8.out; omega
    have hz2 : w2.heap.size + 1 + 1 < w8.heap.size := by have := HS8.out; omega
    have hz3 : w.heap.size + 1 + 1 < w8.heap.size := by have h1 := HS8.out; have h2 := HL2.out; omega
    have hn64 := HFM.out
    obtain ⟨i0, hi0, hy0, hy1, hy2⟩ := info_parts info83
    have HO0 := Lib.hid (own_empty w8 w8.heap.size (Nat.le_refl _))
    have HBA := Lib.hid (below_drew' (below_alloc' (o := .cells #[] 83) (below_refl w8)))
    have HO2 := Lib.hid (own_empty2 w8 w8.heap.size (.cells #[.slice PA ps.length pc, .int .i64 re, .int .i64 lc, .slice CA cn cc] 83) (Nat.le_refl _))
    have HB2 := Lib.hid (below_drew' (below_alloc' (o := (.cells #[.slice PA ps.length pc, .int .i64 re, .int .i64 lc, .slice CA cn cc] 83)) (below_alloc' (o := .cells #[] 83) (below_refl w8))))
    have HR2 := Lib.hid (heap2' w8 (.cells #[] 83) (.cells #[.slice PA ps.length pc, .int .i64 re, .int .i64 lc, .slice CA cn cc] 83)).2
    have HO3 := Lib.hid (own_empty3 w8 w8.heap.size (.cells #[.slice PA ps.length pc, .int .i64 re, .int .i64 lc, .slice CA cn cc] 83) (Nat.le_refl _))
    have HB3b := Lib.hid (below_drew' (below_alloc' (o := .cells #[] 83) (below_alloc' (o := (.cells #[.slice PA ps.length pc, .int .i64 re, .int .i64 lc, .slice CA cn cc] 83)) (below_refl w8))))
    have HR3 := Lib.hid (heap2' w8 (.cells #[.slice PA ps.length pc, .int .i64 re, .int .i64 lc, .slice CA cn cc] 83) (.cells #[] 83)).1
    by_cases hfe : fs = []
    · subst hfe
      have HFd : Hid (FnSl w2 (some ⟨0, 0, none⟩) 0 []) := Lib.hid ⟨by simp, by omega, (fun e => by cases e), fun ad e j f hf => by simp at hf⟩
      simp only [List.length_nil] at k1 l1 R34 R11 ⊢
      go_region_law (first
        | (refine step_append_lies _ (by rfl) (.tmp 52) (.tmp 54) 23 (by rfl) w8.heap.size 83 i0 _ 4 64 Tryd.underlying23 hi0 hy0 hy1 hy2 rfl (by omega) (.slice (some ⟨w8.heap.size, 0, none⟩) 0 0) 0 [] (by rfl) HO2.out ⟨w8.heap.size + 1, 0, none⟩ 1 1 (fnCells PA pc ps.length re lc CA cn cc) (by rfl) (by rfl) (World.news_of_block (cs := #[.slice PA ps.length pc, .int .i64 re, .int .i64 lc, .slice CA cn cc]) (t := 83) (fr := (0, 0)) HR2.out) (by simp [fnCells, Value.oneCell']) (by omega) (by simp only [maxLen]; omega) (by omega) (by simp <;> omega) (w8.heap.size + 1 + 1) (by simp) ?_
           intro g6 cap6 w6 hown6 hgrow6 hat6 hlt6
           have hb6 : Below w8.heap.size w8 w6 := below_of_grown HB2.out hgrow6 (fun k hk => by simp [Value.ownBlock] at hk; omega)
           have p1 := cell_below hb6 l1
           have fp1 : w6.frozen? ⟨w2.heap.size + 1 + 1, 1, none⟩ = false := frozen_of_row w6 (w2.heap.size + 1 + 1) 1 _ _ ((hb6.block _ (Array.getElem?_eq_some_iff.1 R11.out).1).trans R11.out)
           have HB6 := Lib.hid hb6
           rw [Nat.zero_add, List.nil_append] at hown6
           rw [Nat.zero_add]
           have HO6 := Lib.hid hown6
           clear hown6 hgrow6 hat6 hb6 hlt6)
        | (refine step_append_lies _ (by rfl) (.tmp 52) (.tmp 54) 23 (by rfl) w8.heap.size 83 i0 _ 4 64 Tryd.underlying23 hi0 hy0 hy1 hy2 rfl (by omega) (.slice (some ⟨w8.heap.size + 1, 0, none⟩) 0 0) 0 [] (by rfl) HO3.out ⟨w8.heap.size, 0, none⟩ 1 1 (fnCells PA pc ps.length re lc CA cn cc) (by rfl) (by rfl) (World.news_of_block (cs := #[.slice PA ps.length pc, .int .i64 re, .int .i64 lc, .slice CA cn cc]) (t := 83) (fr := (0, 0)) HR3.out) (by simp [fnCells, Value.oneCell']) (by omega) (by simp only [maxLen]; omega) (by omega) (by simp <;> omega) (w8.heap.size + 1 + 1) (by simp) ?_
           intro g6 cap6 w6 hown6 hgrow6 hat6 hlt6
           have hb6 : Below w8.heap.size w8 w6 := below_of_grown HB3b.out hgrow6 (fun k hk => by simp [Value.ownBlock] at hk; omega)
           have p1 := cell_below hb6 l1
           have fp1 : w6.frozen? ⟨w2.heap.size + 1 + 1, 1, none⟩ = false := frozen_of_row w6 (w2.heap.size + 1 + 1) 1 _ _ ((hb6.block _ (Array.getElem?_eq_some_iff.1 R11.out).1).trans R11.out)
           have HB6 := Lib.hid hb6
           rw [Nat.zero_add, List.nil_append] at hown6
           rw [Nat.zero_add]
           have HO6 := Lib.hid hown6
           clear hown6 hgrow6 hat6 hb6 hlt6)
        | (refine step_append_nothing (by rfl) (.tmp 49) (.tmp 51) 23 (by rfl) 83 i0 Tryd.underlying23 hi0 (some ⟨w8.heap.size, 0, none⟩) 0 0 (Nat.le_refl _) (by rfl) (.slice F 0 fc) (by rfl) (src_empty Tryd.underlying23 F fc _) ?_)
        | (refine step_append_nothing (by rfl) (.tmp 49) (.tmp 51) 23 (by rfl) 83 i0 Tryd.underlying23 hi0 (some ⟨w8.heap.size + 1, 0, none⟩) 0 0 (Nat.le_refl _) (by rfl) (.slice F 0 fc) (by rfl) (src_empty Tryd.underlying23 F fc _) ?_)
        | fail)
      all_goals
        have HBW6 := Lib.hid (below_then HB38.out HB6.out)
        have hFz : FnSl (w6.setCell ⟨w2.heap.size + 1 + 1, 1, none⟩ (.slice (some ⟨g6, 0, none⟩) (1) cap6)) (some ⟨g6, 0, none⟩) cap6 (([] : List Fn) ++ [⟨ps, re, lc, []⟩]) := fn_row0 HBW6.out (by omega) hz2 HO6.out HPS2w.out hpl
        have hBz : Below w2.heap.size w2 (w6.setCell ⟨w2.heap.size + 1 + 1, 1, none⟩ (.slice (some ⟨g6, 0, none⟩) (1) cap6)) := HBW6.out.setCell (p := ⟨w2.heap.size + 1 + 1, 1, none⟩) (by show w2.heap.size ≤ w2.heap.size + 1 + 1; omega) _
        have r11 := (HB6.out.block _ (Array.getElem?_eq_some_iff.1 R11.out).1).trans R11.out
        have ri := (heap_setCell_other w6 (⟨w2.heap.size + 1 + 1, 1, none⟩ : Addr) (w.heap.size + 1) (.slice (some ⟨g6, 0, none⟩) (1) cap6) (by have := HL2.out; show w.heap.size + 1 ≠ w2.heap.size + 1 + 1; omega)).trans ((HB6.out.block _ (Array.getElem?_eq_some_iff.1 RIc.out).1).trans RIc.out)
        have r34 := (heap_setCell_other w6 (⟨w2.heap.size + 1 + 1, 1, none⟩ : Addr) w2.heap.size (.slice (some ⟨g6, 0, none⟩) (1) cap6) (by show w2.heap.size ≠ w2.heap.size + 1 + 1; omega)).trans ((HB6.out.block _ (Array.getElem?_eq_some_iff.1 R34.out).1).trans R34.out)
        have rz : (w6.setCell ⟨w2.heap.size + 1 + 1, 1, none⟩ (.slice (some ⟨g6, 0, none⟩) (1) cap6)).heap[w2.heap.size + 1 + 1]? = some (.cells #[.pointer (some ⟨g, 0, none⟩), .slice (some ⟨g6, 0, none⟩) (1) cap6, .int .i64 (lo + 1), .int .i64 (cd + 1)] 34 (0, 0)) := by rw [heap_setCell_same _ _ _ _ _ _ r11]; rfl
        have htz := (HTT.out.below HB6.out).set (p := ⟨w2.heap.size + 1 + 1, 1, none⟩) (u := .slice (some ⟨g6, 0, none⟩) (1) cap6) r11 (by decide) (by decide) (by decide)
        have HFz := Lib.hid hFz
        have HFo := Lib.hid (HF2w.out.below hBz)
        have HTz := Lib.hid htz.tab
        have HBz := Lib.hid (below_then HBN2.out hBz)
        have RIz := Lib.hid ri
        have R34z := Lib.hid r34
        have R11z := Lib.hid rz
        clear hFz hBz r11 ri r34 rz htz HB6 HO6 p1 fp1
        generalize w6.setCell ⟨w2.heap.size + 1 + 1, 1, none⟩ (.slice (some ⟨g6, 0, none⟩) (1) cap6) = wz at *
        have HRs := Lib.hid (right_calls op a b g F 0 fc lo cd (allOf ts) wz HTz.out (by have := HP4.out; omega))
        obtain ⟨i0, i1, i2⟩ := cells3' RIz.out
        obtain ⟨s0, s1, s2, s3⟩ := cells4' R34z.out
        cases hrt : rightR (rowOf op) (allOf ts) 0 lo cd a b with
        | false =>
          rw [hrt] at HRs
          clear hrt
          go_wp2_with fail
          refine HRs.out.mono ?_
          rintro e x1 ⟨rfl, hb⟩
          have HX1 := Lib.hid (below_then HBz.out hb)
          clear hb HRs
          go_wp2_with fail
          go_ret
          exact ⟨rfl, HX1.out⟩
        | true =>
          have hup := eff_up (fs := []) (f := ⟨ps, re, lc, []⟩) (lo2 := lo + 1) (cd2 := cd + 1) hrt (by omega) (by omega)
          have hln : (([] : List Fn) ++ [(⟨ps, re, lc, []⟩ : Fn)]).length = 1 := by simp
          have HEs := Lib.hid (fun W (h : Below wz.heap.size wz W) => effect_calls op a b g F fc lo cd (allOf ts) [] W (HTz.out.below h) (HFo.out.below h) (by have := HP4.out; omega))
          have HEw := Lib.hid (fun W (h : Below wz.heap.size wz W) => effect_calls op a b g (some ⟨g6, 0, none⟩) cap6 (lo + 1) (cd + 1) (allOf ts) (([] : List Fn) ++ [⟨ps, re, lc, []⟩]) W (HTz.out.below h) (HFz.out.below h) (by have := HP4.out; omega))
          have HRw := Lib.hid (fun W (h : Below wz.heap.size wz W) => right_calls op a b g (some ⟨g6, 0, none⟩) (1) cap6 (lo + 1) (cd + 1) (allOf ts) W (HTz.out.below h) (by have := HP4.out; omega))
          rw [hrt] at HRs
          rw [hup.2, hln] at HEw
          rw [← hln, hup.1, hln] at HRw
          generalize (effB (rowOf op) (allOf ts) [] lo cd op a b).1 = tk at *
          generalize (effB (rowOf op) (allOf ts) [] lo cd op a b).2 = lv at *
          clear hrt hup hln
          go_wp2_with fail
          refine HRs.out.mono ?_
          rintro e x1 ⟨rfl, hb⟩
          have HX1 := Lib.hid hb
          obtain ⟨i0, i1, i2⟩ := cells3' ((hb.block _ (Array.getElem?_eq_some_iff.1 RIz.out).1).trans RIz.out)
          obtain ⟨s0, s1, s2, s3⟩ := cells4' ((hb.block _ (Array.getElem?_eq_some_iff.1 R34z.out).1).trans R34z.out)
          have HE1 := Lib.hid (HEs.out x1 hb)
          clear hb HRs HEs
          go_wp2_with fail
          refine HE1.out.mono ?_
          rintro e x2 ⟨rfl, hb⟩
          have HX2 := Lib.hid (below_then HX1.out hb)
          clear hb HE1 HX1
          obtain ⟨i0, i1, i2⟩ := cells3' ((HX2.out.block _ (Array.getElem?_eq_some_iff.1 RIz.out).1).trans RIz.out)
          obtain ⟨q0, q1, q2, q3⟩ := cells4' ((HX2.out.block _ (Array.getElem?_eq_some_iff.1 R11z.out).1).trans R11z.out)
          have HE2 := Lib.hid (HEw.out x2 HX2.out)
          clear HEw
          go_wp2_with fail
          refine HE2.out.mono ?_
          rintro e x3 ⟨rfl, hb⟩
          have HX3 := Lib.hid (below_then HX2.out hb)
          clear hb HE2 HX2
          obtain ⟨i0, i1, i2⟩ := cells3' ((HX3.out.block _ (Array.getElem?_eq_some_iff.1 RIz.out).1).trans RIz.out)
          obtain ⟨q0, q1, q2, q3⟩ := cells4' ((HX3.out.block _ (Array.getElem?_eq_some_iff.1 R11z.out).1).trans R11z.out)
          have HR3 := Lib.hid (HRw.out x3 HX3.out)
          clear HRw
          go_wp2_with fail
          refine HR3.out.mono ?_
          rintro e x4 ⟨rfl, hb⟩
          have HX4 := Lib.hid (below_then HBz.out (below_then HX3.out hb))
          clear hb HR3 HX3
          go_wp2_with fail
          go_ret
          exact ⟨rfl, HX4.out⟩

    have hpos : 0 < fs.length := List.length_pos_iff.2 hfe
    obtain ⟨ad, rfl⟩ : ∃ ad, F = some ad := by
      cases F with
      | none => have h1 := HF3.out.1; have h2 := HF3.out.2.2.1 rfl; omega
      | some ad => exact ⟨ad, rfl⟩
    have HFV := Lib.hid (fun j u (hu : (fnVals w2 ad fs.length)[j]? = some u) => fnVals_get HF2w.out j u hu)
    go_region_law (first
      | (refine step_append_lies _ (by rfl) (.tmp 49) (.tmp 51) 23 (by rfl) w8.heap.size 83 i0 _ 4 64 Tryd.underlying23 hi0 hy0 hy1 hy2 rfl (by omega) (.slice (some ⟨w8.heap.size, 0, none⟩) 0 0) 0 [] (by rfl) HO0.out ad fs.length fc (fnVals w2 ad fs.length) (by rfl) (fnVals_len _ _ _) (fun j u hu => cell_below (below_then HB38.out HBA.out) (HFV.out j u hu).1) (fun u hu => by obtain ⟨j, hj⟩ := List.getElem?_of_mem hu; exact (HFV.out j u hj).2) hpos (by simp only [maxLen]; omega) (by omega) (by simp <;> omega) (w8.heap.size + 1) (by simp) ?_
         intro gg cap5 w5 hown5 hgrow5 hat5 hlt5
         have hb5 : Below w8.heap.size w8 w5 := below_of_grown HBA.out hgrow5 (fun k hk => by simp [Value.ownBlock] at hk; omega)
         rw [Nat.zero_add, List.nil_append] at hown5
         rw [Nat.zero_add]
         have n0 := cell_below hb5 m0
         have n1 := cell_below hb5 m1
         have n2 := cell_below hb5 m2
         have n3 := cell_below hb5 m3
         have HB5 := Lib.hid hb5
         have HO5 := Lib.hid hown5
         clear hown5 hgrow5 hat5 hb5 hlt5)
      | (refine step_append_lies _ (by rfl) (.tmp 49) (.tmp 51) 23 (by rfl) w8.heap.size 83 i0 _ 4 64 Tryd.underlying23 hi0 hy0 hy1 hy2 rfl (by omega) (.slice (some ⟨w8.heap.size, 0, none⟩) 0 0) 0 [] (by rfl) HO2.out ad fs.length fc (fnVals w2 ad fs.length) (by rfl) (fnVals_len _ _ _) (fun j u hu => cell_below (below_then HB38.out HB2.out) (HFV.out j u hu).1) (fun u hu => by obtain ⟨j, hj⟩ := List.getElem?_of_mem hu; exact (HFV.out j u hj).2) hpos (by simp only [maxLen]; omega) (by omega) (by simp <;> omega) (w8.heap.size + 1 + 1) (by simp) ?_
         intro gg cap5 w5 hown5 hgrow5 hat5 hlt5
         have hb5 : Below w8.heap.size w8 w5 := below_of_grown HB2.out hgrow5 (fun k hk => by simp [Value.ownBlock] at hk; omega)
         rw [Nat.zero_add, List.nil_append] at hown5
         rw [Nat.zero_add]
         have n0 := cell_below hb5 m0
         have n1 := cell_below hb5 m1
         have n2 := cell_below hb5 m2
         have n3 := cell_below hb5 m3
         have HB5 := Lib.hid hb5
         have HO5 := Lib.hid hown5
         have R5 := Lib.hid ((hgrow5.block (w8.heap.size + 1) (by simp) (by simp [Value.ownBlock])).trans HR2.out)
         clear hown5 hgrow5 hat5 hb5 hlt5)
      | (refine step_append_lies _ (by rfl) (.tmp 49) (.tmp 51) 23 (by rfl) w8.heap.size 83 i0 _ 4 64 Tryd.underlying23 hi0 hy0 hy1 hy2 rfl (by omega) (.slice (some ⟨w8.heap.size + 1, 0, none⟩) 0 0) 0 [] (by rfl) HO3.out ad fs.length fc (fnVals w2 ad fs.length) (by rfl) (fnVals_len _ _ _) (fun j u hu => cell_below (below_then HB38.out HB3b.out) (HFV.out j u hu).1) (fun u hu => by obtain ⟨j, hj⟩ := List.getElem?_of_mem hu; exact (HFV.out j u hj).2) hpos (by simp only [maxLen]; omega) (by omega) (by simp <;> omega) (w8.heap.size + 1 + 1) (by simp) ?_
         intro gg cap5 w5 hown5 hgrow5 hat5 hlt5
         have hb5 : Below w8.heap.size w8 w5 := below_of_grown HB3b.out hgrow5 (fun k hk => by simp [Value.ownBlock] at hk; omega)
         rw [Nat.zero_add, List.nil_append] at hown5
         rw [Nat.zero_add]
         have n0 := cell_below hb5 m0
         have n1 := cell_below hb5 m1
         have n2 := cell_below hb5 m2
         have n3 := cell_below hb5 m3
         have HB5 := Lib.hid hb5
         have HO5 := Lib.hid hown5
         have R5 := Lib.hid ((hgrow5.block w8.heap.size (by simp <;> omega) (by simp [Value.ownBlock])).trans HR3.out)
         clear hown5 hgrow5 hat5 hb5 hlt5)
      | (refine step_append_lies _ (by rfl) (.tmp 52) (.tmp 54) 23 (by rfl) w8.heap.size 83 i0 _ 4 64 Tryd.underlying23 hi0 hy0 hy1 hy2 rfl (by omega) (.slice (some ⟨gg, 0, none⟩) fs.length cap5) fs.length (fnVals w2 ad fs.length) (by rfl) (HO5.out.alloc _) ⟨w5.heap.size, 0, none⟩ 1 1 (fnCells PA pc ps.length re lc CA cn cc) (by rfl) (by rfl) (World.news_of_block (cs := #[.slice PA ps.length pc, .int .i64 re, .int .i64 lc, .slice CA cn cc]) (t := 83) (fr := (0, 0)) (heap_alloc_new w5 _)) (by simp [fnCells, Value.oneCell']) (by omega) (by simp only [maxLen]; omega) (by omega) (by have := HB5.out.size; simp; omega) (w5.heap.size + 1) (by simp) ?_
         intro g6 cap6 w6 hown6 hgrow6 hat6 hlt6
         have hb6 : Below w8.heap.size w8 w6 := below_of_grown (below_alloc' HB5.out) hgrow6 (fun k hk => (World.ownsRow.lt HO5.out k hk).1)
         have p1 := cell_below hb6 l1
         have fp1 : w6.frozen? ⟨w2.heap.size + 1 + 1, 1, none⟩ = false := frozen_of_row w6 (w2.heap.size + 1 + 1) 1 _ _ ((hb6.block _ (Array.getElem?_eq_some_iff.1 R11.out).1).trans R11.out)
         have HB6 := Lib.hid hb6
         have HO6 := Lib.hid hown6
         clear hown6 hgrow6 hat6 hb6 hlt6)
      | (refine step_append_lies _ (by rfl) (.tmp 52) (.tmp 54) 23 (by rfl) w8.heap.size 83 i0 _ 4 64 Tryd.underlying23 hi0 hy0 hy1 hy2 rfl (by omega) (.slice (some ⟨gg, 0, none⟩) fs.length cap5) fs.length (fnVals w2 ad fs.length) (by rfl) HO5.out ⟨w8.heap.size + 1, 0, none⟩ 1 1 (fnCells PA pc ps.length re lc CA cn cc) (by rfl) (by rfl) (World.news_of_block (cs := #[.slice PA ps.length pc, .int .i64 re, .int .i64 lc, .slice CA cn cc]) (t := 83) (fr := (0, 0)) R5.out) (by simp [fnCells, Value.oneCell']) (by omega) (by simp only [maxLen]; omega) (by omega) HB5.out.size (w5.heap.size) (by simp) ?_
         intro g6 cap6 w6 hown6 hgrow6 hat6 hlt6
         have hb6 : Below w8.heap.size w8 w6 := below_of_grown HB5.out hgrow6 (fun k hk => (World.ownsRow.lt HO5.out k hk).1)
         have p1 := cell_below hb6 l1
         have fp1 : w6.frozen? ⟨w2.heap.size + 1 + 1, 1, none⟩ = false := frozen_of_row w6 (w2.heap.size + 1 + 1) 1 _ _ ((hb6.block _ (Array.getElem?_eq_some_iff.1 R11.out).1).trans R11.out)
         have HB6 := Lib.hid hb6
         have HO6 := Lib.hid hown6
         clear hown6 hgrow6 hat6 hb6 hlt6)
      | (refine step_append_lies _ (by rfl) (.tmp 52) (.tmp 54) 23 (by rfl) w8.heap.size 83 i0 _ 4 64 Tryd.underlying23 hi0 hy0 hy1 hy2 rfl (by omega) (.slice (some ⟨gg, 0, none⟩) fs.length cap5) fs.length (fnVals w2 ad fs.length) (by rfl) HO5.out ⟨w8.heap.size, 0, none⟩ 1 1 (fnCells PA pc ps.length re lc CA cn cc) (by rfl) (by rfl) (World.news_of_block (cs := #[.slice PA ps.length pc, .int .i64 re, .int .i64 lc, .slice CA cn cc]) (t := 83) (fr := (0, 0)) R5.out) (by simp [fnCells, Value.oneCell']) (by omega) (by simp only [maxLen]; omega) (by omega) HB5.out.size (w5.heap.size) (by simp) ?_
         intro g6 cap6 w6 hown6 hgrow6 hat6 hlt6
         have hb6 : Below w8.heap.size w8 w6 := below_of_grown HB5.out hgrow6 (fun k hk => (World.ownsRow.lt HO5.out k hk).1)
         have p1 := cell_below hb6 l1
         have fp1 : w6.frozen? ⟨w2.heap.size + 1 + 1, 1, none⟩ = false := frozen_of_row w6 (w2.heap.size + 1 + 1) 1 _ _ ((hb6.block _ (Array.getElem?_eq_some_iff.1 R11.out).1).trans R11.out)
         have HB6 := Lib.hid hb6
         have HO6 := Lib.hid hown6
         clear hown6 hgrow6 hat6 hb6 hlt6)
      | fail)
    all_goals
      have HBW6 := Lib.hid (below_then HB38.out HB6.out)
      have hFz : FnSl (w6.setCell ⟨w2.heap.size + 1 + 1, 1, none⟩ (.slice (some ⟨g6, 0, none⟩) (fs.length + 1) cap6)) (some ⟨g6, 0, none⟩) cap6 (fs ++ [⟨ps, re, lc, []⟩]) := fn_row HF2w.out HBW6.out (by omega) hz2 HO6.out HPS2w.out hpl
      have hBz : Below w2.heap.size w2 (w6.setCell ⟨w2.heap.size + 1 + 1, 1, none⟩ (.slice (some ⟨g6, 0, none⟩) (fs.length + 1) cap6)) := HBW6.out.setCell (p := ⟨w2.heap.size + 1 + 1, 1, none⟩) (by show w2.heap.size ≤ w2.heap.size + 1 + 1; omega) _
      have r11 := (HB6.out.block _ (Array.getElem?_eq_some_iff.1 R11.out).1).trans R11.out
      have ri := (heap_setCell_other w6 (⟨w2.heap.size + 1 + 1, 1, none⟩ : Addr) (w.heap.size + 1) (.slice (some ⟨g6, 0, none⟩) (fs.length + 1) cap6) (by have := HL2.out; show w.heap.size + 1 ≠ w2.heap.size + 1 + 1; omega)).trans ((HB6.out.block _ (Array.getElem?_eq_some_iff.1 RIc.out).1).trans RIc.out)
      have r34 := (heap_setCell_other w6 (⟨w2.heap.size + 1 + 1, 1, none⟩ : Addr) w2.heap.size (.slice (some ⟨g6, 0, none⟩) (fs.length + 1) cap6) (by show w2.heap.size ≠ w2.heap.size + 1 + 1; omega)).trans ((HB6.out.block _ (Array.getElem?_eq_some_iff.1 R34.out).1).trans R34.out)
      have rz : (w6.setCell ⟨w2.heap.size + 1 + 1, 1, none⟩ (.slice (some ⟨g6, 0, none⟩) (fs.length + 1) cap6)).heap[w2.heap.size + 1 + 1]? = some (.cells #[.pointer (some ⟨g, 0, none⟩), .slice (some ⟨g6, 0, none⟩) (fs.length + 1) cap6, .int .i64 (lo + 1), .int .i64 (cd + 1)] 34 (0, 0)) := by rw [heap_setCell_same _ _ _ _ _ _ r11]; rfl
      have htz := (HTT.out.below HB6.out).set (p := ⟨w2.heap.size + 1 + 1, 1, none⟩) (u := .slice (some ⟨g6, 0, none⟩) (fs.length + 1) cap6) r11 (by decide) (by decide) (by decide)
      have HFz := Lib.hid hFz
      have HFo := Lib.hid (HF2w.out.below hBz)
      have HTz := Lib.hid htz.tab
      have HBz := Lib.hid (below_then HBN2.out hBz)
      have RIz := Lib.hid ri
      have R34z := Lib.hid r34
      have R11z := Lib.hid rz
      clear hFz hBz r11 ri r34 rz htz HB6 HO6 p1 fp1
      generalize w6.setCell ⟨w2.heap.size + 1 + 1, 1, none⟩ (.slice (some ⟨g6, 0, none⟩) (fs.length + 1) cap6) = wz at *
      have HRs := Lib.hid (right_calls op a b g (some ad) fs.length fc lo cd (allOf ts) wz HTz.out (by have := HP4.out; omega))
      obtain ⟨i0, i1, i2⟩ := cells3' RIz.out
      obtain ⟨s0, s1, s2, s3⟩ := cells4' R34z.out
      cases hrt : rightR (rowOf op) (allOf ts) fs.length lo cd a b with
      | false =>
        rw [hrt] at HRs
        clear hrt
        go_wp2_with fail
        refine HRs.out.mono ?_
        rintro e x1 ⟨rfl, hb⟩
        have HX1 := Lib.hid (below_then HBz.out hb)
        clear hb HRs
        go_wp2_with fail
        go_ret
        exact ⟨rfl, HX1.out⟩
      | true =>
        have hup := eff_up (f := ⟨ps, re, lc, []⟩) (lo2 := lo + 1) (cd2 := cd + 1) hrt (by omega) (by omega)
        have hln : (fs ++ [(⟨ps, re, lc, []⟩ : Fn)]).length = fs.length + 1 := by simp
        have HEs := Lib.hid (fun W (h : Below wz.heap.size wz W) => effect_calls op a b g (some ad) fc lo cd (allOf ts) fs W (HTz.out.below h) (HFo.out.below h) (by have := HP4.out; omega))
        have HEw := Lib.hid (fun W (h : Below wz.heap.size wz W) => effect_calls op a b g (some ⟨g6, 0, none⟩) cap6 (lo + 1) (cd + 1) (allOf ts) (fs ++ [⟨ps, re, lc, []⟩]) W (HTz.out.below h) (HFz.out.below h) (by have := HP4.out; omega))
        have HRw := Lib.hid (fun W (h : Below wz.heap.size wz W) => right_calls op a b g (some ⟨g6, 0, none⟩) (fs.length + 1) cap6 (lo + 1) (cd + 1) (allOf ts) W (HTz.out.below h) (by have := HP4.out; omega))
        rw [hrt] at HRs
        rw [hup.2, hln] at HEw
        rw [← hln, hup.1, hln] at HRw
        generalize (effB (rowOf op) (allOf ts) fs lo cd op a b).1 = tk at *
        generalize (effB (rowOf op) (allOf ts) fs lo cd op a b).2 = lv at *
        clear hrt hup hln
        go_wp2_with fail
        refine HRs.out.mono ?_
        rintro e x1 ⟨rfl, hb⟩
        have HX1 := Lib.hid hb
        obtain ⟨i0, i1, i2⟩ := cells3' ((hb.block _ (Array.getElem?_eq_some_iff.1 RIz.out).1).trans RIz.out)
        obtain ⟨s0, s1, s2, s3⟩ := cells4' ((hb.block _ (Array.getElem?_eq_some_iff.1 R34z.out).1).trans R34z.out)
        have HE1 := Lib.hid (HEs.out x1 hb)
        clear hb HRs HEs
        go_wp2_with fail
        refine HE1.out.mono ?_
        rintro e x2 ⟨rfl, hb⟩
        have HX2 := Lib.hid (below_then HX1.out hb)
        clear hb HE1 HX1
        obtain ⟨i0, i1, i2⟩ := cells3' ((HX2.out.block _ (Array.getElem?_eq_some_iff.1 RIz.out).1).trans RIz.out)
        obtain ⟨q0, q1, q2, q3⟩ := cells4' ((HX2.out.block _ (Array.getElem?_eq_some_iff.1 R11z.out).1).trans R11z.out)
        have HE2 := Lib.hid (HEw.out x2 HX2.out)
        clear HEw
        go_wp2_with fail
        refine HE2.out.mono ?_
        rintro e x3 ⟨rfl, hb⟩
        have HX3 := Lib.hid (below_then HX2.out hb)
        clear hb HE2 HX2
        obtain ⟨i0, i1, i2⟩ := cells3' ((HX3.out.block _ (Array.getElem?_eq_some_iff.1 RIz.out).1).trans RIz.out)
        obtain ⟨q0, q1, q2, q3⟩ := cells4' ((HX3.out.block _ (Array.getElem?_eq_some_iff.1 R11z.out).1).trans R11z.out)
        have HR3 := Lib.hid (HRw.out x3 HX3.out)
        clear HRw
        go_wp2_with fail
        refine HR3.out.mono ?_
        rintro e x4 ⟨rfl, hb⟩
        have HX4 := Lib.hid (below_then HBz.out (below_then HX3.out hb))
        clear hb HR3 HX3
        go_wp2_with fail
        go_ret
        exact ⟨rfl, HX4.out⟩

end Go.Proofs.YtdilmfnijkjiaaaDoor.K
