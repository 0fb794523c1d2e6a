import Derived.Test.YtdilmfnijkjiaaaDoorK37
set_option maxRecDepth 100000
set_option linter.unusedSimpArgs false
set_option linter.unusedVariables false
namespace Go.Proofs.YtdilmfnijkjiaaaDoor.K
open Go.RowKit
/-- Step where no function is, at any frame. -/
theorem step_big (op a b : Int) (g : Nat) (TS : List Ty) (res : Int) (LA : Option Addr) (lc : Nat) (ls : List Int) (SA : Option Addr) (sc : Nat) (st : List Int) (w : World) (hT : Tab w g TS) (hpl : (partsOf TS a).length * 8 ≤ 140737488355328)
    (hsz : st.length ≤ 17592186044300) (hll : ls.length * 8 ≤ 140737488355328) (hL : IntSl w LA lc ls) (hS : IntSl w SA sc st) (r1 r2 : List Int) (v : Int) (hr : stepM TS [] 0 0 op a b res ls st = (r1, r2, v)) (n1 n2 m1 m2 : Nat) (e1 : ls.length = n1) (e2 : st.length = n2) (e3 : r1.length = m1) (e4 : r2.length = m2) :
    Calls Tryd.prog 22 #[.agg #[.int .i64 op, .int .i64 a, .int .i64 b], .agg #[.pointer (some ⟨g, 0, none⟩), .slice none 0 0, .int .i64 0, .int .i64 0], .int .i64 res, .agg #[.slice LA n1 lc, .slice SA n2 sc]] w fun e w' =>
      ∃ A1 k1 A2 k2, e = .returned (.tuple #[.agg #[.slice A1 m1 k1, .slice A2 m2 k2], .int .i64 v]) ∧ IntSl w' A1 k1 r1 ∧ IntSl w' A2 k2 r2 ∧ Below w.heap.size w w' := by
  subst e1 e2 e3 e4
  have k := step_calls op a b g none 0 0 0 TS [] res LA lc ls SA sc st w hT (FnSl.nil _) hpl hsz hll hL hS
  rw [hr] at k
  refine k.mono ?_
  rintro e w2 ⟨V1, V2, rfl, ho, hb2⟩
  obtain ⟨A1, k1, rfl, hs1⟩ := ho.l.sl
  obtain ⟨A2, k2, rfl, hs2⟩ := ho.s.sl
  exact ⟨A1, k1, A2, k2, rfl, hs1, hs2, hb2⟩
theorem parts_le2 {ts : List Ty} (h : ∀ t ∈ ts, t.parts.length * 8 ≤ 140737488351232) (a : Int) : (partsOf (allOf ts) a).length * 8 ≤ 140737488351232 := by
  unfold partsOf
  split
  · rename_i hin
    have hm : tyAt (allOf ts) a ∈ allOf ts := by
      unfold tyAt
      rw [List.getD_eq_getElem?_getD, List.getElem?_eq_getElem (by omega)]
      exact List.getElem_mem _
    simp only [allOf, List.mem_cons] at hm
    rcases hm with e | e | e
    · simp only [allOf] at e ⊢; rw [e]; simp [base0]
    · simp only [allOf] at e ⊢; rw [e]; simp [base1]
    · have := h _ e
      simp only [allOf] at this ⊢
      omega
  · simp
theorem take_self : ∀ (l : List Int), (∀ p ∈ l, 0 ≤ p) → takeErr 0 l l = 0
  | [], _ => rfl
  | p :: l, h => by
    have hp := h p (by simp)
    have ih := take_self l (fun q hq => h q (by simp [hq]))
    unfold takeErr at ih ⊢
    simp only [List.zip_cons_cons, List.foldr_cons, ih]
    simp [stepErr, needErr]
theorem parts_in {ts : List Ty} (hok : tysOk ts) (n : Int) : ∀ p ∈ partsOf (allOf ts) n, 0 ≤ p := by
  intro p hp
  unfold partsOf at hp
  split at hp
  · rename_i hin
    have hm : tyAt (allOf ts) n ∈ allOf ts := by
      unfold tyAt
      rw [List.getD_eq_getElem?_getD, List.getElem?_eq_getElem (by omega)]
      exact List.getElem_mem _
    exact (all_parts hok _ hm p hp).1
  · simp at hp
theorem o_right {TS : List Ty} {n : Int} (h : kOf TS n = 2) : rightR (rowOf 22) TS 0 0 0 n 0 = true := by simp [rightR, rowOf, rws, twoB, belowB, h]
theorem o_rec {ts : List Ty} (hok : tysOk ts) {n : Int} (h : kOf (allOf ts) n = 2) : stepM (allOf ts) [] 0 0 22 n 0 0 [] (partsOf (allOf ts) n) = ([], [n], 0) := by
  have hr := o_right h
  have hs := take_self _ (parts_in hok n)
  unfold stepM
  rw [show ([] : List Fn).length = 0 from rfl, hr]
  have e1 : (effR (rowOf 22) (allOf ts) [] 22 n 0).1 = ((partsOf (allOf ts) n).length : Int) := rfl
  have e2 : (effR (rowOf 22) (allOf ts) [] 22 n 0).2 = 1 := rfl
  have e3 : needF (allOf ts) [] 22 n 0 0 = partsOf (allOf ts) n := rfl
  rw [e1, e2, e3, if_neg (by simp), if_neg (by omega), if_neg (by omega), Nat.sub_self, List.drop_zero]
  have e4 : errF (allOf ts) [] 22 n 0 0 [] (partsOf (allOf ts) n) = 0 := by
    unfold errF
    rw [e3, if_neg (by simp)]
    have : preErr (allOf ts) [] 22 n 0 [] = 0 := by simp [preErr]
    rw [this, hs]
    rfl
  rw [e4]
  rfl
theorem o_field_no {TS : List Ty} {n part : Int} (h : kOf TS n = 2) (hp : part < 0 ∨ ((partsOf TS n).length : Int) ≤ part) (st : List Int) : stepM TS [] 0 0 23 n part 0 [] st = ([], [], 1) := by
  have hr : rightR (rowOf 23) TS 0 0 0 n part = false := by
    simp [rightR, rowOf, rws, twoB, belowB, h]
    omega
  unfold stepM
  rw [show ([] : List Fn).length = 0 from rfl, hr]
  rfl
theorem o_field {TS : List Ty} {n part : Int} (h : kOf TS n = 2) (h0 : 0 ≤ part) (h1 : part < (partsOf TS n).length) : stepM TS [] 0 0 23 n part 0 [] [n] = ([], [(partsOf TS n).getD part.toNat 0], 0) := by
  have hr : rightR (rowOf 23) TS 0 0 0 n part = true := by
    simp [rightR, rowOf, rws, twoB, belowB, h]
    omega
  obtain ⟨hn, _, _⟩ := kind_in h (by decide)
  unfold stepM
  rw [show ([] : List Fn).length = 0 from rfl, hr]
  have e : errF TS [] 23 n part 0 [] [n] = 0 := by
    first
      | (simp [errF, needF, preErr, failErr, takeErr, stepErr, needErr]; done)
      | (simp [errF, needF, preErr, failErr, takeErr, stepErr, needErr]; (repeat' split) <;> omega)
  refine Eq.trans (b := (([] : List Int), [(partsOf TS n).getD part.toNat 0], errF TS [] 23 n part 0 [] [n])) rfl (by rw [e])
/-- What store wants. -/
def wantO (p other : Int) : Int := if other = -1 then 15 else if other ≠ p then 16 else 0
theorem o_store {TS : List Ty} {n part other : Int} (h : kOf TS n = 2) (h0 : 0 ≤ part) (h1 : part < (partsOf TS n).length) (hp : 0 ≤ (partsOf TS n).getD part.toNat 0) : stepM TS [] 0 0 24 n part 0 [] [n, other] = ([], [], wantO ((partsOf TS n).getD part.toNat 0) other) := by
  have hr : rightR (rowOf 24) TS 0 0 0 n part = true := by
    simp [rightR, rowOf, rws, twoB, belowB, h]
    omega
  obtain ⟨hn, _, _⟩ := kind_in h (by decide)
  unfold stepM
  rw [show ([] : List Fn).length = 0 from rfl, hr]
  have e : errF TS [] 24 n part 0 [] [n, other] = wantO ((partsOf TS n).getD part.toNat 0) other := by
    generalize hq : (partsOf TS n).getD part.toNat 0 = q at *
    have e3 : needF TS [] 24 n part 0 = [n, q] := by rw [← hq]; rfl
    unfold errF
    rw [e3]
    simp [preErr, failErr, takeErr, stepErr, needErr, wantO]
    (repeat' split) <;> omega
  refine Eq.trans (b := (([] : List Int), ([] : List Int), errF TS [] 24 n part 0 [] [n, other])) rfl (by rw [e])
end Go.Proofs.YtdilmfnijkjiaaaDoor.K
