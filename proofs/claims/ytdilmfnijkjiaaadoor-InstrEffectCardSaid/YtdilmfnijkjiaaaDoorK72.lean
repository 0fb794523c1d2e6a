import Derived.Test.YtdilmfnijkjiaaaDoorK60
import Derived.Test.YtdilmfnijkjiaaaDoorK57
set_option maxRecDepth 100000
set_option linter.unusedSimpArgs false
set_option linter.unusedVariables false
namespace Go.Proofs.YtdilmfnijkjiaaaDoor.K
open Go.RowKit

set_option maxHeartbeats 2000000 in
theorem effect4_no (op a b : Int) (A : Option Addr) (c : Nat) (ts : List Ty) (F : Option Addr) (nf d : Nat) (locals code : Int) (w : World) (hT : TySl w A c ts) (hok : tysOk ts) (hr : a ≤ 9223372036854775807) (hright : rightR (rowOf op) (allOf ts) nf locals code a b = false) :
    Calls Tryd.prog 60 #[.agg #[.int .i64 op, .int .i64 a, .int .i64 b], .agg #[.slice A ts.length c, .slice F nf d, .int .i64 locals, .int .i64 code]] w (PairPost w 0 0) := by
  have hB0 : Below w.heap.size w ((w.alloc (.cells #[.int .i64 op, .int .i64 a, .int .i64 b] 27)).alloc (.cells #[.slice A ts.length c, .slice F nf d, .int .i64 locals, .int .i64 code] 36)) := below_alloc' (below_alloc' (below_refl w))
  have hb := heap2' w (.cells #[.int .i64 op, .int .i64 a, .int .i64 b] 27) (.cells #[.slice A ts.length c, .slice F nf d, .int .i64 locals, .int .i64 code] 36)
  have hR := right4_calls op a b A c ts F nf d locals code _ (hT.below hB0) hok hr
  rw [hright] at hR
  have HR := Lib.hid hR
  have HB0 := Lib.hid hB0
  obtain ⟨c0, c1, c2⟩ := cells3' hb.1
  obtain ⟨c3, c4, c5, c6⟩ := cells4' hb.2
  have R1 := Lib.hid hb.1
  clear hR hB0 hb hright hT hok hr
  go_enter Tryd.func60, Tryd.ntmps60
  go_wp2_with fail
  refine HR.out.mono ?_
  rintro e w1 ⟨rfl, hb⟩
  have HB1 := Lib.hid (below_then HB0.out hb)
  clear hb HR c0 c1 c2 c3 c4 c5 c6
  go_wp2_with fail
  go_ret2
  exact ⟨rfl, HB1.out⟩

theorem min_form : (rowOf 20).form = 5 ∧ (rowOf 22).form = 6 ∧ (rowOf 29).form = 8 ∧ (rowOf 30).form = 6 := by decide
theorem w_sub2 {p q : Nat} (h1 : p * 8 ≤ 140737488355328) (h2 : q * 8 ≤ 140737488351232) : wrap64 ((p : Int) - (q : Int)) = (p : Int) - (q : Int) := by unfold wrap64; omega
theorem w_one {q : Nat} (h2 : q * 8 ≤ 140737488351232) : wrap64 (1 + (q : Int)) = 1 + (q : Int) := by unfold wrap64; omega
theorem wrap_one {q : Nat} (h2 : q * 8 ≤ 140737488351232) : IntKind.i64.wrap (1 + (q : Int)) = 1 + (q : Int) := wrap_small _ (by omega) (by omega)
def capM (p q : Nat) : Int := max 0 ((p : Int) - (q : Int))
set_option maxHeartbeats 4000000 in
theorem captured_calls (A : Option Addr) (c : Nat) (ts : List Ty) (F : Option Addr) (d : Nat) (fs : List Fn) (locals code a b : Int) (w : World) (hT : TySl w A c ts) (hok : tysOk ts) (hr : a ≤ 9223372036854775807) (hF : FnSl w F d fs) (h0 : 0 ≤ b) (h1 : b < fs.length) (hl : (partsOf (allOf ts) a).length * 8 ≤ 140737488351232) :
    Calls Tryd.prog 97 #[.agg #[.slice A ts.length c, .slice F fs.length d, .int .i64 locals, .int .i64 code], .int .i64 a, .int .i64 b] w (IntPost w (capM (fnAt fs b).params.length (partsOf (allOf ts) a).length)) := by
  have hB0 : Below w.heap.size w (w.alloc (.cells #[.slice A ts.length c, .slice F fs.length d, .int .i64 locals, .int .i64 code] 36)) := below_alloc' (below_refl w)
  obtain ⟨B, bd, -, hQ⟩ := parts3_named A c ts a _ (hT.below hB0) hok hr
  obtain ⟨ad, A', c', rfl, g0, g1, g2, g3⟩ := (hF.below hB0).get b h0 h1
  obtain ⟨m, rfl⟩ : ∃ m : Nat, b = (m : Int) := ⟨b.toNat, by omega⟩
  rw [Int.toNat_natCast] at g0 g1
  obtain ⟨d0, d1, d2, d3⟩ := cells4' (heap_alloc_new w (.cells #[.slice A ts.length c, .slice (some ad) fs.length d, .int .i64 locals, .int .i64 code] 36))
  have HQ : Hid (∀ n, Calls Tryd.prog 96 #[.slice A ts.length c, .int .i64 a] ((w.alloc (.cells #[.slice A ts.length c, .slice (some ad) fs.length d, .int .i64 locals, .int .i64 code] 36)).drewN n) fun e w' => e = .returned (.slice B (partsOf (allOf ts) a).length bd) ∧ (w.alloc (.cells #[.slice A ts.length c, .slice (some ad) fs.length d, .int .i64 locals, .int .i64 code] 36)).drewN n = w') := Lib.hid fun n => hQ _ (below_drewN' (below_refl _))
  have HB0 := Lib.hid hB0
  have hpl : (partsOf (allOf ts) a).length ≤ 9223372036854775807 := by omega
  generalize (partsOf (allOf ts) a).length = q at *
  generalize (fnAt fs (m : Int)).params.length = p at *
  have hmi : (m : Int) < (fs.length : Int) := by omega
  have hw1 := w_sub2 (p := p) (q := q) (by omega) (by omega)
  clear hQ hT hF hok g1 g2 h1 hB0 hl g3 d2 d3
  unfold capM
  by_cases hpq : (p : Int) - (q : Int) < 0
  · have e : max 0 ((p : Int) - (q : Int)) = 0 := by omega
    rw [e]
    have hpq2 : decide ((p : Int) - (q : Int) < 0) = true := by simpa using hpq
    clear e
    go_enter Tryd.func97, Tryd.ntmps97
    go_wp2_with fail
    go_quiet ((go_at_call 96; exact (HQ.out _).mono fun _ _ h => ⟨h.1, ⟨_, h.2.symm⟩⟩))
    go_wp2_with fail
    go_ret
    exact ⟨rfl, below_drewN' HB0.out⟩
  · have e : max 0 ((p : Int) - (q : Int)) = (p : Int) - (q : Int) := by omega
    rw [e]
    have hpq2 : decide ((p : Int) - (q : Int) < 0) = false := by simpa using hpq
    clear e
    go_enter Tryd.func97, Tryd.ntmps97
    go_wp2_with fail
    go_quiet ((go_at_call 96; exact (HQ.out _).mono fun _ _ h => ⟨h.1, ⟨_, h.2.symm⟩⟩))
    go_wp2_with fail
    go_ret
    exact ⟨by show Ending.returned (Value.int .i64 (wrap64 ((p : Int) - (q : Int)))) = _; rw [hw1], below_drewN' HB0.out⟩
set_option maxHeartbeats 4000000 in
theorem effect4_20 (a b : Int) (A : Option Addr) (c : Nat) (ts : List Ty) (F : Option Addr) (d : Nat) (fs : List Fn) (locals code : Int) (w : World) (hT : TySl w A c ts) (hok : tysOk ts) (hr : a ≤ 9223372036854775807) (hF : FnSl w F d fs) (hl : (partsOf (allOf ts) a).length * 8 ≤ 140737488351232) (hright : rightR (rowOf 20) (allOf ts) fs.length locals code a b = true) (h0 : 0 ≤ a) (h1 : a < fs.length) :
    Calls Tryd.prog 60 #[.agg #[.int .i64 20, .int .i64 a, .int .i64 b], .agg #[.slice A ts.length c, .slice F fs.length d, .int .i64 locals, .int .i64 code]] w (PairPost w ((fnAt fs a).params.length : Int) 1) := by
  have hB0 : Below w.heap.size w ((w.alloc (.cells #[.int .i64 20, .int .i64 a, .int .i64 b] 27)).alloc (.cells #[.slice A ts.length c, .slice F fs.length d, .int .i64 locals, .int .i64 code] 36)) := below_alloc' (below_alloc' (below_refl w))
  have hb := heap2' w (.cells #[.int .i64 20, .int .i64 a, .int .i64 b] 27) (.cells #[.slice A ts.length c, .slice F fs.length d, .int .i64 locals, .int .i64 code] 36)
  have hR := right4_calls 20 a b A c ts F fs.length d locals code _ (hT.below hB0) hok hr
  rw [hright] at hR
  have HN := Lib.hid (fun w => (show Calls Tryd.prog 49 #[.int .i64 20] w fun e w' => e = .returned (.string ⟨#[99, 97, 108, 108]⟩) ∧ Below w.heap.size w w' from name4_calls 20 w))
  have HR := Lib.hid hR
  have HT := Lib.hid (hT.below hB0)
  have HF := Lib.hid (hF.below hB0)
  have HOK := Lib.hid hok
  have HLL := Lib.hid hl
  have HB0 := Lib.hid hB0
  obtain ⟨c0, c1, c2⟩ := cells3' hb.1
  obtain ⟨c3, c4, c5, c6⟩ := cells4' hb.2
  have R1 := Lib.hid hb.1
  have R2 := Lib.hid hb.2
  clear hR hB0 hb hright hT hok hF hl
  go_enter Tryd.func60, Tryd.ntmps60
  go_wp2_with fail
  refine HR.out.mono ?_
  rintro e w1 ⟨rfl, hb⟩
  obtain ⟨d0, d1, d2⟩ := cells3' ((hb.block _ (Array.getElem?_eq_some_iff.1 R1.out).1).trans R1.out)
  have R2b := Lib.hid ((hb.block _ (Array.getElem?_eq_some_iff.1 R2.out).1).trans R2.out)
  have R1b := Lib.hid ((hb.block _ (Array.getElem?_eq_some_iff.1 R1.out).1).trans R1.out)
  have HT1 := Lib.hid (HT.out.below hb)
  have HF1 := Lib.hid (HF.out.below hb)
  have HB1 := Lib.hid (below_then HB0.out hb)
  clear hb HR c0 c1 c2 c3 c4 c5 c6 R1 R2 HT HF HB0
  go_wp2_with fail
  refine (HN.out _).mono ?_
  rintro e w2 ⟨rfl, hb⟩
  have HB2 := Lib.hid (below_then HB1.out hb)
  obtain ⟨c0, c1, c2⟩ := cells3' ((hb.block _ (Array.getElem?_eq_some_iff.1 R1b.out).1).trans R1b.out)
  obtain ⟨c3, c4, c5, c6⟩ := cells4' ((hb.block _ (Array.getElem?_eq_some_iff.1 R2b.out).1).trans R2b.out)
  have HT2 := Lib.hid (HT1.out.below hb)
  have HF2 := Lib.hid (HF1.out.below hb)
  clear hb HN d0 d1 d2 R1b R2b HB1 HT1 HF1
  obtain ⟨ad, A', c', rfl, g0, g1, g2, g3⟩ := HF2.out.get a h0 h1
  obtain ⟨m, rfl⟩ : ∃ m : Nat, a = (m : Int) := ⟨a.toNat, by omega⟩
  rw [Int.toNat_natCast] at g0 g1
  have hmi : (m : Int) < (fs.length : Int) := by omega
  generalize (fnAt fs (m : Int)).params.length = p at *
  clear g1 g2 g3 HF2 HT2 HLL
  go_wp2_with fail
  go_ret2
  exact ⟨rfl, HB2.out⟩
set_option maxHeartbeats 4000000 in
theorem effect4_22 (a b : Int) (A : Option Addr) (c : Nat) (ts : List Ty) (F : Option Addr) (d : Nat) (fs : List Fn) (locals code : Int) (w : World) (hT : TySl w A c ts) (hok : tysOk ts) (hr : a ≤ 9223372036854775807) (hF : FnSl w F d fs) (hl : (partsOf (allOf ts) a).length * 8 ≤ 140737488351232) (hright : rightR (rowOf 22) (allOf ts) fs.length locals code a b = true)  :
    Calls Tryd.prog 60 #[.agg #[.int .i64 22, .int .i64 a, .int .i64 b], .agg #[.slice A ts.length c, .slice F fs.length d, .int .i64 locals, .int .i64 code]] w (PairPost w ((partsOf (allOf ts) a).length : Int) 1) := by
  have hB0 : Below w.heap.size w ((w.alloc (.cells #[.int .i64 22, .int .i64 a, .int .i64 b] 27)).alloc (.cells #[.slice A ts.length c, .slice F fs.length d, .int .i64 locals, .int .i64 code] 36)) := below_alloc' (below_alloc' (below_refl w))
  have hb := heap2' w (.cells #[.int .i64 22, .int .i64 a, .int .i64 b] 27) (.cells #[.slice A ts.length c, .slice F fs.length d, .int .i64 locals, .int .i64 code] 36)
  have hR := right4_calls 22 a b A c ts F fs.length d locals code _ (hT.below hB0) hok hr
  rw [hright] at hR
  have HN := Lib.hid (fun w => (show Calls Tryd.prog 49 #[.int .i64 22] w fun e w' => e = .returned (.string ⟨#[114, 101, 99, 111, 114, 100]⟩) ∧ Below w.heap.size w w' from name4_calls 22 w))
  have HR := Lib.hid hR
  have HT := Lib.hid (hT.below hB0)
  have HF := Lib.hid (hF.below hB0)
  have HOK := Lib.hid hok
  have HLL := Lib.hid hl
  have HB0 := Lib.hid hB0
  obtain ⟨c0, c1, c2⟩ := cells3' hb.1
  obtain ⟨c3, c4, c5, c6⟩ := cells4' hb.2
  have R1 := Lib.hid hb.1
  have R2 := Lib.hid hb.2
  clear hR hB0 hb hright hT hok hF hl
  go_enter Tryd.func60, Tryd.ntmps60
  go_wp2_with fail
  refine HR.out.mono ?_
  rintro e w1 ⟨rfl, hb⟩
  obtain ⟨d0, d1, d2⟩ := cells3' ((hb.block _ (Array.getElem?_eq_some_iff.1 R1.out).1).trans R1.out)
  have R2b := Lib.hid ((hb.block _ (Array.getElem?_eq_some_iff.1 R2.out).1).trans R2.out)
  have R1b := Lib.hid ((hb.block _ (Array.getElem?_eq_some_iff.1 R1.out).1).trans R1.out)
  have HT1 := Lib.hid (HT.out.below hb)
  have HF1 := Lib.hid (HF.out.below hb)
  have HB1 := Lib.hid (below_then HB0.out hb)
  clear hb HR c0 c1 c2 c3 c4 c5 c6 R1 R2 HT HF HB0
  go_wp2_with fail
  refine (HN.out _).mono ?_
  rintro e w2 ⟨rfl, hb⟩
  have HB2 := Lib.hid (below_then HB1.out hb)
  obtain ⟨c0, c1, c2⟩ := cells3' ((hb.block _ (Array.getElem?_eq_some_iff.1 R1b.out).1).trans R1b.out)
  obtain ⟨c3, c4, c5, c6⟩ := cells4' ((hb.block _ (Array.getElem?_eq_some_iff.1 R2b.out).1).trans R2b.out)
  have HT2 := Lib.hid (HT1.out.below hb)
  have HF2 := Lib.hid (HF1.out.below hb)
  clear hb HN d0 d1 d2 R1b R2b HB1 HT1 HF1
  obtain ⟨B, bd, -, hQ⟩ := parts3_named A c ts a w2 HT2.out HOK.out hr
  have HQ := Lib.hid (hQ w2 (below_refl w2))
  have hpl := HLL.out
  generalize (partsOf (allOf ts) a).length = q at *
  have HPL := Lib.hid hpl
  clear hQ HF2 HT2 HLL hpl
  go_wp2_with fail
  refine HQ.out.mono ?_
  rintro e w3 ⟨rfl, rfl⟩
  go_wp2_with fail
  go_ret2
  exact ⟨rfl, HB2.out⟩
set_option maxHeartbeats 4000000 in
theorem effect4_29 (a b : Int) (A : Option Addr) (c : Nat) (ts : List Ty) (F : Option Addr) (d : Nat) (fs : List Fn) (locals code : Int) (w : World) (hT : TySl w A c ts) (hok : tysOk ts) (hr : a ≤ 9223372036854775807) (hF : FnSl w F d fs) (hl : (partsOf (allOf ts) a).length * 8 ≤ 140737488351232) (hright : rightR (rowOf 29) (allOf ts) fs.length locals code a b = true) (h0 : 0 ≤ b) (h1 : b < fs.length) :
    Calls Tryd.prog 60 #[.agg #[.int .i64 29, .int .i64 a, .int .i64 b], .agg #[.slice A ts.length c, .slice F fs.length d, .int .i64 locals, .int .i64 code]] w (PairPost w (capM (fnAt fs b).params.length (partsOf (allOf ts) a).length) 1) := by
  have hB0 : Below w.heap.size w ((w.alloc (.cells #[.int .i64 29, .int .i64 a, .int .i64 b] 27)).alloc (.cells #[.slice A ts.length c, .slice F fs.length d, .int .i64 locals, .int .i64 code] 36)) := below_alloc' (below_alloc' (below_refl w))
  have hb := heap2' w (.cells #[.int .i64 29, .int .i64 a, .int .i64 b] 27) (.cells #[.slice A ts.length c, .slice F fs.length d, .int .i64 locals, .int .i64 code] 36)
  have hR := right4_calls 29 a b A c ts F fs.length d locals code _ (hT.below hB0) hok hr
  rw [hright] at hR
  have HN := Lib.hid (fun w => (show Calls Tryd.prog 49 #[.int .i64 29] w fun e w' => e = .returned (.string ⟨#[99, 108, 111, 115, 117, 114, 101]⟩) ∧ Below w.heap.size w w' from name4_calls 29 w))
  have HR := Lib.hid hR
  have HT := Lib.hid (hT.below hB0)
  have HF := Lib.hid (hF.below hB0)
  have HOK := Lib.hid hok
  have HLL := Lib.hid hl
  have HB0 := Lib.hid hB0
  obtain ⟨c0, c1, c2⟩ := cells3' hb.1
  obtain ⟨c3, c4, c5, c6⟩ := cells4' hb.2
  have R1 := Lib.hid hb.1
  have R2 := Lib.hid hb.2
  clear hR hB0 hb hright hT hok hF hl
  go_enter Tryd.func60, Tryd.ntmps60
  go_wp2_with fail
  refine HR.out.mono ?_
  rintro e w1 ⟨rfl, hb⟩
  obtain ⟨d0, d1, d2⟩ := cells3' ((hb.block _ (Array.getElem?_eq_some_iff.1 R1.out).1).trans R1.out)
  have R2b := Lib.hid ((hb.block _ (Array.getElem?_eq_some_iff.1 R2.out).1).trans R2.out)
  have R1b := Lib.hid ((hb.block _ (Array.getElem?_eq_some_iff.1 R1.out).1).trans R1.out)
  have HT1 := Lib.hid (HT.out.below hb)
  have HF1 := Lib.hid (HF.out.below hb)
  have HB1 := Lib.hid (below_then HB0.out hb)
  clear hb HR c0 c1 c2 c3 c4 c5 c6 R1 R2 HT HF HB0
  go_wp2_with fail
  refine (HN.out _).mono ?_
  rintro e w2 ⟨rfl, hb⟩
  have HB2 := Lib.hid (below_then HB1.out hb)
  obtain ⟨c0, c1, c2⟩ := cells3' ((hb.block _ (Array.getElem?_eq_some_iff.1 R1b.out).1).trans R1b.out)
  obtain ⟨c3, c4, c5, c6⟩ := cells4' ((hb.block _ (Array.getElem?_eq_some_iff.1 R2b.out).1).trans R2b.out)
  have HT2 := Lib.hid (HT1.out.below hb)
  have HF2 := Lib.hid (HF1.out.below hb)
  clear hb HN d0 d1 d2 R1b R2b HB1 HT1 HF1
  have HQ := Lib.hid (captured_calls A c ts F d fs locals code a b w2 HT2.out HOK.out hr HF2.out h0 h1 HLL.out)
  unfold IntPost at HQ
  generalize capM (fnAt fs b).params.length (partsOf (allOf ts) a).length = q at *
  clear HF2 HT2 HLL
  go_wp2_with fail
  refine HQ.out.mono ?_
  rintro e w3 ⟨rfl, hb⟩
  have HB3 := Lib.hid (below_then HB2.out hb)
  clear hb HQ
  go_wp2_with fail
  go_ret2
  exact ⟨rfl, HB3.out⟩
set_option maxHeartbeats 4000000 in
theorem effect4_30 (a b : Int) (A : Option Addr) (c : Nat) (ts : List Ty) (F : Option Addr) (d : Nat) (fs : List Fn) (locals code : Int) (w : World) (hT : TySl w A c ts) (hok : tysOk ts) (hr : a ≤ 9223372036854775807) (hF : FnSl w F d fs) (hl : (partsOf (allOf ts) a).length * 8 ≤ 140737488351232) (hright : rightR (rowOf 30) (allOf ts) fs.length locals code a b = true)  :
    Calls Tryd.prog 60 #[.agg #[.int .i64 30, .int .i64 a, .int .i64 b], .agg #[.slice A ts.length c, .slice F fs.length d, .int .i64 locals, .int .i64 code]] w (PairPost w (1 + ((partsOf (allOf ts) a).length : Int)) 1) := by
  have hB0 : Below w.heap.size w ((w.alloc (.cells #[.int .i64 30, .int .i64 a, .int .i64 b] 27)).alloc (.cells #[.slice A ts.length c, .slice F fs.length d, .int .i64 locals, .int .i64 code] 36)) := below_alloc' (below_alloc' (below_refl w))
  have hb := heap2' w (.cells #[.int .i64 30, .int .i64 a, .int .i64 b] 27) (.cells #[.slice A ts.length c, .slice F fs.length d, .int .i64 locals, .int .i64 code] 36)
  have hR := right4_calls 30 a b A c ts F fs.length d locals code _ (hT.below hB0) hok hr
  rw [hright] at hR
  have HN := Lib.hid (fun w => (show Calls Tryd.prog 49 #[.int .i64 30] w fun e w' => e = .returned (.string ⟨#[97, 112, 112, 108, 121]⟩) ∧ Below w.heap.size w w' from name4_calls 30 w))
  have HR := Lib.hid hR
  have HT := Lib.hid (hT.below hB0)
  have HF := Lib.hid (hF.below hB0)
  have HOK := Lib.hid hok
  have HLL := Lib.hid hl
  have HB0 := Lib.hid hB0
  obtain ⟨c0, c1, c2⟩ := cells3' hb.1
  obtain ⟨c3, c4, c5, c6⟩ := cells4' hb.2
  have R1 := Lib.hid hb.1
  have R2 := Lib.hid hb.2
  clear hR hB0 hb hright hT hok hF hl
  go_enter Tryd.func60, Tryd.ntmps60
  go_wp2_with fail
  refine HR.out.mono ?_
  rintro e w1 ⟨rfl, hb⟩
  obtain ⟨d0, d1, d2⟩ := cells3' ((hb.block _ (Array.getElem?_eq_some_iff.1 R1.out).1).trans R1.out)
  have R2b := Lib.hid ((hb.block _ (Array.getElem?_eq_some_iff.1 R2.out).1).trans R2.out)
  have R1b := Lib.hid ((hb.block _ (Array.getElem?_eq_some_iff.1 R1.out).1).trans R1.out)
  have HT1 := Lib.hid (HT.out.below hb)
  have HF1 := Lib.hid (HF.out.below hb)
  have HB1 := Lib.hid (below_then HB0.out hb)
  clear hb HR c0 c1 c2 c3 c4 c5 c6 R1 R2 HT HF HB0
  go_wp2_with fail
  refine (HN.out _).mono ?_
  rintro e w2 ⟨rfl, hb⟩
  have HB2 := Lib.hid (below_then HB1.out hb)
  obtain ⟨c0, c1, c2⟩ := cells3' ((hb.block _ (Array.getElem?_eq_some_iff.1 R1b.out).1).trans R1b.out)
  obtain ⟨c3, c4, c5, c6⟩ := cells4' ((hb.block _ (Array.getElem?_eq_some_iff.1 R2b.out).1).trans R2b.out)
  have HT2 := Lib.hid (HT1.out.below hb)
  have HF2 := Lib.hid (HF1.out.below hb)
  clear hb HN d0 d1 d2 R1b R2b HB1 HT1 HF1
  obtain ⟨B, bd, -, hQ⟩ := parts3_named A c ts a w2 HT2.out HOK.out hr
  have HQ := Lib.hid (hQ w2 (below_refl w2))
  have hpl := HLL.out
  generalize (partsOf (allOf ts) a).length = q at *
  have HPL := Lib.hid hpl
  clear hQ HF2 HT2 HLL hpl
  go_wp2_with fail
  refine HQ.out.mono ?_
  rintro e w3 ⟨rfl, rfl⟩
  have hw1 : wrap64 (1 + (q : Int)) = 1 + (q : Int) := w_one HPL.out
  have hw2 : IntKind.i64.wrap (1 + (q : Int)) = 1 + (q : Int) := wrap_one HPL.out
  go_wp2_with fail
  go_ret2
  exact ⟨by first | rfl | (rw [hw2]; rfl) | (rw [hw1]; rfl), HB2.out⟩
theorem sel20 {ts : List Ty} {nf : Nat} {locals code a b : Int} (h : rightR (rowOf 20) ts nf locals code a b = true) : belowB a nf = true := by
  unfold rightR at h
  rw [min_form.1] at h
  split at h
  · cases h
  · simpa using h
theorem sel29 {ts : List Ty} {nf : Nat} {locals code a b : Int} (h : rightR (rowOf 29) ts nf locals code a b = true) : belowB b nf = true := by
  unfold rightR at h
  rw [min_form.2.2.1] at h
  split at h
  · cases h
  · have h2 : (kOf ts a == (rowOf 29).kind && belowB b nf) = true := by simpa using h
    exact (Bool.and_eq_true _ _ ▸ h2).2
theorem PairPost.cast {w : World} {n m n' m' : Int} {e : Ending} {w' : World} (h : PairPost w n m e w') (h1 : n = n') (h2 : m = m') : PairPost w n' m' e w' := by subst h1; subst h2; exact h
theorem belowB_iff {n m : Int} (h : belowB n m = true) : 0 ≤ n ∧ n < m := by simpa [belowB] using h
theorem effB_no {r : Rw} {ts : List Ty} {fs : List Fn} {locals code op a b : Int} (h : rightR r ts fs.length locals code a b = false) : effB r ts fs locals code op a b = (0, 0) := by unfold effB; rw [h]; rfl
theorem effB_yes {r : Rw} {ts : List Ty} {fs : List Fn} {locals code op a b : Int} (h : rightR r ts fs.length locals code a b = true) : effB r ts fs locals code op a b = effR r ts fs op a b := by unfold effB; rw [h]; rfl
theorem right_in2 {op : Int} {ts : List Ty} {nf : Nat} {locals code a b : Int} (h : rightR (rowOf op) ts nf locals code a b = true) : 0 ≤ op ∧ op < 38 := by
  by_cases hin : 0 ≤ op ∧ op < 38
  · exact hin
  · exfalso
    have e : rowOf op = ⟨⟨#[]⟩, -1, -1, 0, 0, false⟩ := by unfold rowOf; rw [if_neg hin]
    rw [e] at h
    revert h
    simp [rightR]
set_option maxHeartbeats 4000000 in
theorem effect4_calls (op a b : Int) (A : Option Addr) (c : Nat) (ts : List Ty) (F : Option Addr) (d : Nat) (fs : List Fn) (locals code : Int) (w : World) (hT : TySl w A c ts) (hok : tysOk ts) (hr : a ≤ 9223372036854775807) (hF : FnSl w F d fs) (hl : (partsOf (allOf ts) a).length * 8 ≤ 140737488351232) :
    Calls Tryd.prog 60 #[.agg #[.int .i64 op, .int .i64 a, .int .i64 b], .agg #[.slice A ts.length c, .slice F fs.length d, .int .i64 locals, .int .i64 code]] w (PairPost w (effB (rowOf op) (allOf ts) fs locals code op a b).1 (effB (rowOf op) (allOf ts) fs locals code op a b).2) := by
  cases hright : rightR (rowOf op) (allOf ts) fs.length locals code a b with
  | false =>
    rw [effB_no hright]
    exact effect4_no op a b A c ts F fs.length d locals code w hT hok hr hright
  | true =>
    rw [effB_yes hright]
    have hin := right_in2 hright
    obtain ⟨n, rfl⟩ : ∃ n : Nat, op = (n : Int) := ⟨op.toNat, by omega⟩
    have hn : n < 38 := by omega
    clear hin
    match n, hn with
    | 0, _ => exact effect4_0 a b A c ts F fs.length d locals code w hT hok hr hright
    | 1, _ => exact effect4_1 a b A c ts F fs.length d locals code w hT hok hr hright
    | 2, _ => exact effect4_2 a b A c ts F fs.length d locals code w hT hok hr hright
    | 3, _ => exact effect4_3 a b A c ts F fs.length d locals code w hT hok hr hright
    | 4, _ => exact effect4_4 a b A c ts F fs.length d locals code w hT hok hr hright
    | 5, _ => exact effect4_5 a b A c ts F fs.length d locals code w hT hok hr hright
    | 6, _ => exact effect4_6 a b A c ts F fs.length d locals code w hT hok hr hright
    | 7, _ => exact effect4_7 a b A c ts F fs.length d locals code w hT hok hr hright
    | 8, _ => exact effect4_8 a b A c ts F fs.length d locals code w hT hok hr hright
    | 9, _ => exact effect4_9 a b A c ts F fs.length d locals code w hT hok hr hright
    | 10, _ => exact effect4_10 a b A c ts F fs.length d locals code w hT hok hr hright
    | 11, _ => exact effect4_11 a b A c ts F fs.length d locals code w hT hok hr hright
    | 12, _ => exact effect4_12 a b A c ts F fs.length d locals code w hT hok hr hright
    | 13, _ => exact effect4_13 a b A c ts F fs.length d locals code w hT hok hr hright
    | 14, _ => exact effect4_14 a b A c ts F fs.length d locals code w hT hok hr hright
    | 15, _ => exact effect4_15 a b A c ts F fs.length d locals code w hT hok hr hright
    | 16, _ => exact effect4_16 a b A c ts F fs.length d locals code w hT hok hr hright
    | 17, _ => exact effect4_17 a b A c ts F fs.length d locals code w hT hok hr hright
    | 18, _ => exact effect4_18 a b A c ts F fs.length d locals code w hT hok hr hright
    | 19, _ => exact effect4_19 a b A c ts F fs.length d locals code w hT hok hr hright
    | 20, _ =>
      have hb := belowB_iff (sel20 hright)
      exact effect4_20 a b A c ts F d fs locals code w hT hok hr hF hl hright hb.1 hb.2
    | 21, _ => exact effect4_21 a b A c ts F fs.length d locals code w hT hok hr hright
    | 22, _ => exact effect4_22 a b A c ts F d fs locals code w hT hok hr hF hl hright
    | 23, _ => exact effect4_23 a b A c ts F fs.length d locals code w hT hok hr hright
    | 24, _ => exact effect4_24 a b A c ts F fs.length d locals code w hT hok hr hright
    | 25, _ => exact effect4_25 a b A c ts F fs.length d locals code w hT hok hr hright
    | 26, _ => exact effect4_26 a b A c ts F fs.length d locals code w hT hok hr hright
    | 27, _ => exact effect4_27 a b A c ts F fs.length d locals code w hT hok hr hright
    | 28, _ => exact effect4_28 a b A c ts F fs.length d locals code w hT hok hr hright
    | 29, _ =>
      have hb := belowB_iff (sel29 hright)
      exact effect4_29 a b A c ts F d fs locals code w hT hok hr hF hl hright hb.1 hb.2
    | 30, _ => exact effect4_30 a b A c ts F d fs locals code w hT hok hr hF hl hright
    | 31, _ => exact effect4_31 a b A c ts F fs.length d locals code w hT hok hr hright
    | 32, _ => exact effect4_32 a b A c ts F fs.length d locals code w hT hok hr hright
    | 33, _ => exact effect4_33 a b A c ts F fs.length d locals code w hT hok hr hright
    | 34, _ => exact effect4_34 a b A c ts F fs.length d locals code w hT hok hr hright
    | 35, _ => exact effect4_35 a b A c ts F fs.length d locals code w hT hok hr hright
    | 36, _ => exact effect4_36 a b A c ts F fs.length d locals code w hT hok hr hright
    | 37, _ => exact effect4_37 a b A c ts F fs.length d locals code w hT hok hr hright
    | n + 38, h => exact absurd h (by omega)
end Go.Proofs.YtdilmfnijkjiaaaDoor.K
