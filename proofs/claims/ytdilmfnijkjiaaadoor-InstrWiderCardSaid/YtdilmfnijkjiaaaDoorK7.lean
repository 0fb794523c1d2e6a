import Derived.Test.YtdilmfnijkjiaaaDoorK6
set_option maxRecDepth 100000
set_option linter.unusedSimpArgs false
set_option linter.unusedVariables false
namespace Go.Proofs.YtdilmfnijkjiaaaDoor.K
open Go.RowKit
/-- A function's four cells; of its code nothing is told. -/
def FnAt (w : World) (ad : Addr) (j : Nat) (f : Fn) : Prop :=
  ∃ A c B n d, w.cell? (ad.add (j * 4)) = some (.slice A f.params.length c) ∧ w.cell? (ad.add (j * 4 + 1)) = some (.int .i64 f.result) ∧ w.cell? (ad.add (j * 4 + 2)) = some (.int .i64 f.locals) ∧ w.cell? (ad.add (j * 4 + 3)) = some (.slice B n d) ∧
    IntSl w A c f.params ∧ f.params.length * 8 ≤ 140737488351232
def FnSl (w : World) (A : Option Addr) (c : Nat) (fs : List Fn) : Prop :=
  fs.length ≤ c ∧ c ≤ 9223372036854775807 ∧ (A = none → c = 0) ∧ ∀ ad, A = some ad → ∀ j f, fs[j]? = some f → FnAt w ad j f
theorem FnAt.below {w w1 : World} {ad : Addr} {j : Nat} {t : Fn} (h : FnAt w ad j t) (hb : Below w.heap.size w w1) : FnAt w1 ad j t := by
  obtain ⟨A, c, B, n, d, h0, h1, h2, h3, h4, h5⟩ := h
  exact ⟨A, c, B, n, d, cell_below hb h0, cell_below hb h1, cell_below hb h2, cell_below hb h3, h4.below hb, h5⟩
theorem FnSl.below {w w1 : World} {A : Option Addr} {c : Nat} {xs : List Fn} (h : FnSl w A c xs) (hb : Below w.heap.size w w1) : FnSl w1 A c xs :=
  ⟨h.1, h.2.1, h.2.2.1, fun ad e j x hj => (h.2.2.2 ad e j x hj).below hb⟩
def fnAt (fs : List Fn) (n : Int) : Fn := fs.getD n.toNat ⟨[], 0, 0, []⟩
theorem FnSl.get {w : World} {A : Option Addr} {c : Nat} {fs : List Fn} (h : FnSl w A c fs) (n : Int) (h0 : 0 ≤ n) (h1 : n < fs.length) :
    ∃ ad A' c', A = some ad ∧ w.cell? (ad.add (n.toNat * 4)) = some (.slice A' (fnAt fs n).params.length c') ∧ w.cell? ⟨(ad.add (n.toNat * 4)).block, (ad.add (n.toNat * 4)).off + 1, none⟩ = some (.int .i64 (fnAt fs n).result) ∧
      IntSl w A' c' (fnAt fs n).params ∧ (fnAt fs n).params.length * 8 ≤ 140737488351232 := by
  obtain ⟨hl, hc, hn, ha⟩ := h
  cases A with
  | none => have := hn rfl; omega
  | some ad =>
    have hi : n.toNat < fs.length := by omega
    have e : fs[n.toNat]? = some (fnAt fs n) := by unfold fnAt; rw [List.getD_eq_getElem?_getD, List.getElem?_eq_getElem hi]; rfl
    obtain ⟨A', c', B, m, d, g0, g1, g2, g3, g4, g5⟩ := ha ad rfl _ _ e
    rw [add_field _ _ _ (by omega)] at g1
    exact ⟨ad, A', c', rfl, g0, g1, g4, g5⟩

/-- What Effect answers of an instruction that is right. -/
def effR (r : Rw) (ts : List Ty) (fs : List Fn) (op a b : Int) : Int × Int :=
  if op = 20 then ((fnAt fs a).params.length, 1)
  else if op = 22 then ((partsOf ts a).length, 1)
  else if op = 29 then (max 0 ((fnAt fs b).params.length - (partsOf ts a).length), 1)
  else if op = 30 then (1 + (partsOf ts a).length, 1)
  else (r.takes, r.leaves)

set_option maxHeartbeats 400000 in
theorem eff_no (op a b : Int) (g : Nat) (A : Option Addr) (nf c : Nat) (locals code : Int) (ts : List Ty) (w : World) (hT : Tab w g ts) (hl : (partsOf ts a).length * 8 ≤ 140737488355328) (hr : rightR (rowOf op) ts nf locals code a b = false) :
    Calls Tryd.prog 26 #[inV op a b, scV g A nf c locals code] w fun e w' => e = .returned (.tuple #[.int .i64 0, .int .i64 0]) ∧ Below w.heap.size w w' := by
  have HB0 := Lib.hid (below_alloc' (o := .cells #[.pointer (some ⟨g, 0, none⟩), .slice A nf c, .int .i64 locals, .int .i64 code] 34) (below_alloc' (o := .cells #[.int .i64 op, .int .i64 a, .int .i64 b] 27) (below_refl w)))
  have HR := Lib.hid (right_calls op a b g A nf c locals code ts _ (hT.below HB0.out) hl)
  rw [hr] at HR
  clear hr hT hl
  go_enter Tryd.func26, Tryd.ntmps26
  go_wp2_with fail
  refine HR.out.mono ?_
  rintro e w1 ⟨rfl, hb⟩
  have HB1 := Lib.hid (below_then HB0.out hb)
  clear hb
  go_wp2
  go_ret2
  exact ⟨rfl, HB1.out⟩
set_option maxHeartbeats 400000 in
theorem eff_20 (a b : Int) (g : Nat) (A : Option Addr) (c : Nat) (locals code : Int) (ts : List Ty) (fs : List Fn) (w : World) (hT : Tab w g ts) (hF : FnSl w A c fs) (hl : (partsOf ts a).length * 8 ≤ 140737488355328) (hr : rightR (rowOf 20) ts fs.length locals code a b = true) :
    Calls Tryd.prog 26 #[inV 20 a b, scV g A fs.length c locals code] w fun e w' => e = .returned (.tuple #[.int .i64 (fnAt fs a).params.length, .int .i64 1]) ∧ Below w.heap.size w w' := by
  have HB0 := Lib.hid (below_alloc' (o := .cells #[.pointer (some ⟨g, 0, none⟩), .slice A fs.length c, .int .i64 locals, .int .i64 code] 34) (below_alloc' (o := .cells #[.int .i64 20, .int .i64 a, .int .i64 b] 27) (below_refl w)))
  have HR := Lib.hid (right_calls 20 a b g A fs.length c locals code ts _ (hT.below HB0.out) hl)
  have HT := Lib.hid hT
  have HL := Lib.hid hl
  have hab : 0 ≤ a ∧ a < fs.length := by simp [rightR, rowOf, rws, belowB] at hr; exact hr.2
  obtain ⟨h0, h1⟩ := hab
  obtain ⟨ad, A', c', rfl, g0, _, _, _⟩ := hF.get a h0 h1
  have G0 := Lib.hid g0
  clear g0
  rw [hr] at HR
  clear hr hT hl
  go_enter Tryd.func26, Tryd.ntmps26
  go_wp2_with fail
  refine HR.out.mono ?_
  rintro e w1 ⟨rfl, hb⟩
  have HB1 := Lib.hid (below_then HB0.out hb)
  obtain ⟨hc, hf⟩ := bcell hb
  have hz : w.heap.size + 1 < w1.heap.size := by have := hb.size; simp at this; omega
  have hz0 : w.heap.size < w1.heap.size := by omega
  clear hb
  go_wp2_with fail
  refine (of_row 20 _).mono ?_
  rintro e w2 ⟨rfl, hb⟩
  have HB2 := Lib.hid (below_then HB1.out hb)
  obtain ⟨hc2, hf2⟩ := bcell hb
  have hy : w.heap.size + 1 < w2.heap.size := by have := hb.size; omega
  have hy0 : w.heap.size < w2.heap.size := by omega
  clear hb
  have g0' := fun o => cell_below (below_alloc' (o := o) HB2.out) G0.out
  go_wp2
  go_ret2
  exact ⟨rfl, below_alloc' HB2.out⟩
set_option maxHeartbeats 400000 in
theorem eff_22 (a b : Int) (g : Nat) (A : Option Addr) (c : Nat) (locals code : Int) (ts : List Ty) (fs : List Fn) (w : World) (hT : Tab w g ts) (hF : FnSl w A c fs) (hl : (partsOf ts a).length * 8 ≤ 140737488355328) (hr : rightR (rowOf 22) ts fs.length locals code a b = true) :
    Calls Tryd.prog 26 #[inV 22 a b, scV g A fs.length c locals code] w fun e w' => e = .returned (.tuple #[.int .i64 (partsOf ts a).length, .int .i64 1]) ∧ Below w.heap.size w w' := by
  have HB0 := Lib.hid (below_alloc' (o := .cells #[.pointer (some ⟨g, 0, none⟩), .slice A fs.length c, .int .i64 locals, .int .i64 code] 34) (below_alloc' (o := .cells #[.int .i64 22, .int .i64 a, .int .i64 b] 27) (below_refl w)))
  have HR := Lib.hid (right_calls 22 a b g A fs.length c locals code ts _ (hT.below HB0.out) hl)
  have HT := Lib.hid hT
  have HL := Lib.hid hl
  rw [hr] at HR
  clear hr hT hl
  go_enter Tryd.func26, Tryd.ntmps26
  go_wp2_with fail
  refine HR.out.mono ?_
  rintro e w1 ⟨rfl, hb⟩
  have HB1 := Lib.hid (below_then HB0.out hb)
  obtain ⟨hc, hf⟩ := bcell hb
  have hz : w.heap.size + 1 < w1.heap.size := by have := hb.size; simp at this; omega
  have hz0 : w.heap.size < w1.heap.size := by omega
  clear hb
  go_wp2_with fail
  refine (of_row 22 _).mono ?_
  rintro e w2 ⟨rfl, hb⟩
  have HB2 := Lib.hid (below_then HB1.out hb)
  obtain ⟨hc2, hf2⟩ := bcell hb
  have hy : w.heap.size + 1 < w2.heap.size := by have := hb.size; omega
  have hy0 : w.heap.size < w2.heap.size := by omega
  clear hb
  go_wp2_with ((go_at_call 31; refine (parts_calls g ts a _ (HT.out.below (below_alloc' HB2.out)) HL.out).mono ?_; rintro e w3 ⟨v, rfl, ho, hb⟩; obtain ⟨A2, c2, rfl, hs⟩ := ho.sl; have HB3 := Lib.hid (below_then (below_alloc' HB2.out) hb); clear ho hs hb))
  go_ret2
  exact ⟨rfl, HB3.out⟩
set_option maxHeartbeats 400000 in
theorem eff_30 (a b : Int) (g : Nat) (A : Option Addr) (c : Nat) (locals code : Int) (ts : List Ty) (fs : List Fn) (w : World) (hT : Tab w g ts) (hF : FnSl w A c fs) (hl : (partsOf ts a).length * 8 ≤ 140737488355328) (hr : rightR (rowOf 30) ts fs.length locals code a b = true) :
    Calls Tryd.prog 26 #[inV 30 a b, scV g A fs.length c locals code] w fun e w' => e = .returned (.tuple #[.int .i64 (1 + (partsOf ts a).length), .int .i64 1]) ∧ Below w.heap.size w w' := by
  have HB0 := Lib.hid (below_alloc' (o := .cells #[.pointer (some ⟨g, 0, none⟩), .slice A fs.length c, .int .i64 locals, .int .i64 code] 34) (below_alloc' (o := .cells #[.int .i64 30, .int .i64 a, .int .i64 b] 27) (below_refl w)))
  have HR := Lib.hid (right_calls 30 a b g A fs.length c locals code ts _ (hT.below HB0.out) hl)
  have HT := Lib.hid hT
  have HL := Lib.hid hl
  have hs1 : IntKind.i64.wrap (1 + ((partsOf ts a).length : Int)) = 1 + (partsOf ts a).length := IntWalk.i64_in _ (by omega)
  rw [hr] at HR
  clear hr hT hl
  go_enter Tryd.func26, Tryd.ntmps26
  go_wp2_with fail
  refine HR.out.mono ?_
  rintro e w1 ⟨rfl, hb⟩
  have HB1 := Lib.hid (below_then HB0.out hb)
  obtain ⟨hc, hf⟩ := bcell hb
  have hz : w.heap.size + 1 < w1.heap.size := by have := hb.size; simp at this; omega
  have hz0 : w.heap.size < w1.heap.size := by omega
  clear hb
  go_wp2_with fail
  refine (of_row 30 _).mono ?_
  rintro e w2 ⟨rfl, hb⟩
  have HB2 := Lib.hid (below_then HB1.out hb)
  obtain ⟨hc2, hf2⟩ := bcell hb
  have hy : w.heap.size + 1 < w2.heap.size := by have := hb.size; omega
  have hy0 : w.heap.size < w2.heap.size := by omega
  clear hb
  go_wp2_with ((go_at_call 31; refine (parts_calls g ts a _ (HT.out.below (below_alloc' HB2.out)) HL.out).mono ?_; rintro e w3 ⟨v, rfl, ho, hb⟩; obtain ⟨A2, c2, rfl, hs⟩ := ho.sl; have HB3 := Lib.hid (below_then (below_alloc' HB2.out) hb); clear ho hs hb))
  go_ret2
  exact ⟨rfl, HB3.out⟩
set_option maxHeartbeats 400000 in
theorem eff_any (op a b : Int) (g : Nat) (A : Option Addr) (c : Nat) (locals code : Int) (ts : List Ty) (fs : List Fn) (w : World) (hT : Tab w g ts) (hF : FnSl w A c fs) (hl : (partsOf ts a).length * 8 ≤ 140737488355328) (hr : rightR (rowOf op) ts fs.length locals code a b = true) (h20 : (op == 20) = false) (h22 : (op == 22) = false) (h29 : (op == 29) = false) (h30 : (op == 30) = false) :
    Calls Tryd.prog 26 #[inV op a b, scV g A fs.length c locals code] w fun e w' => e = .returned (.tuple #[.int .i64 (rowOf op).takes, .int .i64 (rowOf op).leaves]) ∧ Below w.heap.size w w' := by
  have HB0 := Lib.hid (below_alloc' (o := .cells #[.pointer (some ⟨g, 0, none⟩), .slice A fs.length c, .int .i64 locals, .int .i64 code] 34) (below_alloc' (o := .cells #[.int .i64 op, .int .i64 a, .int .i64 b] 27) (below_refl w)))
  have HR := Lib.hid (right_calls op a b g A fs.length c locals code ts _ (hT.below HB0.out) hl)
  have HT := Lib.hid hT
  have HL := Lib.hid hl
  rw [hr] at HR
  clear hr hT hl
  go_enter Tryd.func26, Tryd.ntmps26
  go_wp2_with fail
  refine HR.out.mono ?_
  rintro e w1 ⟨rfl, hb⟩
  have HB1 := Lib.hid (below_then HB0.out hb)
  obtain ⟨hc, hf⟩ := bcell hb
  have hz : w.heap.size + 1 < w1.heap.size := by have := hb.size; simp at this; omega
  have hz0 : w.heap.size < w1.heap.size := by omega
  clear hb
  go_wp2_with fail
  refine (of_row op _).mono ?_
  rintro e w2 ⟨rfl, hb⟩
  have HB2 := Lib.hid (below_then HB1.out hb)
  obtain ⟨hc2, hf2⟩ := bcell hb
  have hy : w.heap.size + 1 < w2.heap.size := by have := hb.size; omega
  have hy0 : w.heap.size < w2.heap.size := by omega
  clear hb
  go_wp2
  go_quiet (fail)
  go_wp2
  go_ret2
  exact ⟨rfl, below_drewN' (below_alloc' HB2.out)⟩
end Go.Proofs.YtdilmfnijkjiaaaDoor.K
