import Derived.Test.YtdilmfnijkjiaaaDoorK33
import Derived.Test.YtdilmfnijkjiaaaDoorK35
set_option maxRecDepth 100000
set_option linter.unusedSimpArgs false
set_option linter.unusedVariables false
namespace Go.Proofs.YtdilmfnijkjiaaaDoor.K
open Go.RowKit
theorem row_below {w w' : World} (hb : Below w.heap.size w w') {b : Nat} {o : Obj} (h : w.heap[b]? = some o) : w'.heap[b]? = some o := (hb.block b (Array.getElem?_eq_some_iff.1 h).1).trans h
/-- Step where no function is, no local, no code. -/
theorem step_sl (op a b : Int) (g : Nat) (TS : List Ty) (res : Int) (LA : Option Addr) (lc : Nat) (ls : List Int) (SA : Option Addr) (sc : Nat) (st : List Int) (w : World) (hT : Tab w g TS) (hpl : (partsOf TS a).length * 8 ≤ 140737488355328)
    (hsz : st.length ≤ 1000) (hll : ls.length ≤ 1000) (hL : IntSl w LA lc ls) (hS : IntSl w SA sc st) (r1 r2 : List Int) (v : Int) (hr : stepM TS [] 0 0 op a b res ls st = (r1, r2, v)) (n1 n2 m1 m2 : Nat) (e1 : ls.length = n1) (e2 : st.length = n2) (e3 : r1.length = m1) (e4 : r2.length = m2) :
    Calls Tryd.prog 22 #[.agg #[.int .i64 op, .int .i64 a, .int .i64 b], .agg #[.pointer (some ⟨g, 0, none⟩), .slice none 0 0, .int .i64 0, .int .i64 0], .int .i64 res, .agg #[.slice LA n1 lc, .slice SA n2 sc]] w fun e w' =>
      ∃ A1 k1 A2 k2, e = .returned (.tuple #[.agg #[.slice A1 m1 k1, .slice A2 m2 k2], .int .i64 v]) ∧ IntSl w' A1 k1 r1 ∧ IntSl w' A2 k2 r2 ∧ Below w.heap.size w w' := by
  subst e1 e2 e3 e4
  have k := step_calls op a b g none 0 0 0 TS [] res LA lc ls SA sc st w hT (FnSl.nil _) hpl (by omega) (by omega) hL hS
  rw [hr] at k
  refine k.mono ?_
  rintro e w2 ⟨V1, V2, rfl, ho, hb2⟩
  obtain ⟨A1, k1, rfl, hs1⟩ := ho.l.sl
  obtain ⟨A2, k2, rfl, hs2⟩ := ho.s.sl
  exact ⟨A1, k1, A2, k2, rfl, hs1, hs2, hb2⟩
theorem parts_le {ts : List Ty} (h : ∀ t ∈ ts, t.parts.length * 8 ≤ 140737488351232) (a : Int) : (partsOf (allOf ts) a).length * 8 ≤ 140737488355328 := by
  unfold partsOf
  split
  · rename_i hin
    have hm : tyAt (allOf ts) a ∈ allOf ts := by
      unfold tyAt
      rw [List.getD_eq_getElem?_getD, List.getElem?_eq_getElem (by omega)]
      exact List.getElem_mem _
    simp only [allOf, List.mem_cons] at hm
    rcases hm with e | e | e
    · simp only [allOf] at e ⊢; rw [e]; simp [base0]
    · simp only [allOf] at e ⊢; rw [e]; simp [base1]
    · have := h _ e
      simp only [allOf] at this ⊢
      omega
  · simp
theorem kind_in {TS : List Ty} {n k : Int} (h : kOf TS n = k) (hk : 0 ≤ k) : 0 ≤ n ∧ n < TS.length ∧ (tyAt TS n).kind = k := by
  unfold kOf at h
  split at h
  · rename_i hin; exact ⟨hin.1, hin.2, h⟩
  · omega
theorem of_in {ts : List Ty} (hok : tysOk ts) {n k : Int} (h : kOf (allOf ts) n = k) (hk : 3 ≤ k) : 0 ≤ ofOf (allOf ts) n := by
  obtain ⟨h0, h1, h2⟩ := kind_in h (by omega)
  unfold ofOf
  rw [h, if_neg (by omega)]
  have hm : tyAt (allOf ts) n ∈ allOf ts := by
    unfold tyAt
    rw [List.getD_eq_getElem?_getD, List.getElem?_eq_getElem (by omega)]
    exact List.getElem_mem _
  exact (all_ofs hok _ hm).1
/-- What Step does of a maybe's type. -/
def wantM (TS : List Ty) (n slot : Int) : Int := if slot = -1 then 15 else if slot ≠ ofOf TS n then 16 else 0
theorem m_right {TS : List Ty} {n : Int} (h : kOf TS n = 5) (op : Int) (ho : op = 31 ∨ op = 32 ∨ op = 33 ∨ op = 34) : rightR (rowOf op) TS 0 0 0 n 0 = true := by
  rcases ho with rfl | rfl | rfl | rfl <;> (simp [rightR, rowOf, rws, twoB, belowB, h])
theorem m_none {TS : List Ty} {n : Int} (h : kOf TS n = 5) : stepM TS [] 0 0 31 n 0 0 [] [] = ([], [n], 0) := by
  have hr := m_right h 31 (by decide)
  unfold stepM
  rw [show ([] : List Fn).length = 0 from rfl, hr]
  rfl
theorem m_some {ts : List Ty} (hok : tysOk ts) {n slot : Int} (h : kOf (allOf ts) n = 5) : stepM (allOf ts) [] 0 0 32 n 0 0 [] [slot] = ([], [n], wantM (allOf ts) n slot) := by
  have hr := m_right h 32 (by decide)
  have ho := of_in hok h (by decide)
  unfold stepM
  rw [show ([] : List Fn).length = 0 from rfl, hr]
  have e : errF (allOf ts) [] 32 n 0 0 [] [slot] = wantM (allOf ts) n slot := by
    simp [errF, needF, preErr, failErr, takeErr, stepErr, needErr, wantM]
    (repeat' split) <;> omega
  rw [← e]
  rfl
theorem m_isnone {TS : List Ty} {n : Int} (h : kOf TS n = 5) : stepM TS [] 0 0 33 n 0 0 [] [n] = ([], [1], 0) := by
  have hr := m_right h 33 (by decide)
  obtain ⟨h0, _, _⟩ := kind_in h (by decide)
  unfold stepM
  rw [show ([] : List Fn).length = 0 from rfl, hr]
  have e : errF TS [] 33 n 0 0 [] [n] = 0 := by
    first
      | (simp [errF, needF, preErr, failErr, takeErr, stepErr, needErr]; done)
      | (simp [errF, needF, preErr, failErr, takeErr, stepErr, needErr]; (repeat' split) <;> omega)
  refine Eq.trans (b := (([] : List Int), [1], errF TS [] 33 n 0 0 [] [n])) rfl (by rw [e])
theorem m_force {TS : List Ty} {n : Int} (h : kOf TS n = 5) : stepM TS [] 0 0 34 n 0 0 [] [n] = ([], [ofOf TS n], 0) := by
  have hr := m_right h 34 (by decide)
  obtain ⟨h0, _, _⟩ := kind_in h (by decide)
  unfold stepM
  rw [show ([] : List Fn).length = 0 from rfl, hr]
  have e : errF TS [] 34 n 0 0 [] [n] = 0 := by
    first
      | (simp [errF, needF, preErr, failErr, takeErr, stepErr, needErr]; done)
      | (simp [errF, needF, preErr, failErr, takeErr, stepErr, needErr]; (repeat' split) <;> omega)
  refine Eq.trans (b := (([] : List Int), [ofOf TS n], errF TS [] 34 n 0 0 [] [n])) rfl (by rw [e])
end Go.Proofs.YtdilmfnijkjiaaaDoor.K
