import Derived.Test.YtdilmfnijkjiaaaDoorK32
import Derived.Deep.RegionHeld3
import Derived.Deep.RegionWith
set_option maxRecDepth 100000
set_option linter.unusedSimpArgs false
set_option linter.unusedVariables false
namespace Go.Proofs.YtdilmfnijkjiaaaDoor.K
open Go.RowKit
/-- What Step answers at two slots. -/
def twoM (op a b : Int) : List Int × List Int × Int := stepM (allOf []) [] 0 0 op 0 0 0 [] [a, b]
def takesM (op : Int) : Int := (effB (rowOf op) (allOf []) [] 0 0 op 0 0).1
theorem two_num (op a b : Int) (h : op = 8 ∨ op = 9 ∨ op = 10 ∨ op = 11 ∨ op = 12) : ∃ v, twoM op a b = ([], [0], v) ∧ (v = 0 ↔ a = 0 ∧ b = 0) := by
  rcases h with rfl | rfl | rfl | rfl | rfl <;> refine ⟨_, rfl, ?_⟩ <;> (change errF (allOf []) [] _ 0 0 0 [] [a, b] = 0 ↔ _; simp [errF, needF, preErr, failErr, takeErr, stepErr, needErr]; (repeat' split) <;> omega)
theorem two_less (a b : Int) : ∃ v, twoM 13 a b = ([], [1], v) ∧ (v = 0 ↔ a = 0 ∧ b = 0) := by
  refine ⟨_, rfl, ?_⟩; change errF (allOf []) [] _ 0 0 0 [] [a, b] = 0 ↔ _; simp [errF, needF, preErr, failErr, takeErr, stepErr, needErr]; (repeat' split) <;> omega
theorem two_and (op a b : Int) (h : op = 16 ∨ op = 17) : ∃ v, twoM op a b = ([], [1], v) ∧ (v = 0 ↔ a = 1 ∧ b = 1) := by
  rcases h with rfl | rfl <;> refine ⟨_, rfl, ?_⟩ <;> (change errF (allOf []) [] _ 0 0 0 [] [a, b] = 0 ↔ _; simp [errF, needF, preErr, failErr, takeErr, stepErr, needErr]; (repeat' split) <;> omega)
theorem two_same (a b : Int) : ∃ v, twoM 14 a b = ([], [1], v) ∧ (v = 0 ↔ a = b ∧ a ≠ -1) := by
  refine ⟨_, rfl, ?_⟩; change errF (allOf []) [] _ 0 0 0 [] [a, b] = 0 ↔ _; simp [errF, needF, preErr, failErr, takeErr, stepErr, needErr]; (repeat' split) <;> omega
theorem two_void (op a b : Int) (h : (b = -1 ∧ 0 < takesM op) ∨ (a = -1 ∧ 1 < takesM op)) (hw : (twoM op a b).2.2 = 0) : op = 5 ∨ op = 7 := by
  by_cases hin : 0 ≤ op ∧ op < 38
  · rcases op_cases hin.1 hin.2 with k | k | k | k | k | k | k | k | k | k | k | k | k | k | k | k | k | k | k | k | k | k | k | k | k | k | k | k | k | k | k | k | k | k | k | k | k | k <;> subst k
    all_goals first
      | (left; rfl)
      | (right; rfl)
      | (exfalso; change (b = -1 ∧ (0 : Int) < 0) ∨ (a = -1 ∧ (1 : Int) < 0) at h; omega)
      | (exfalso; change (b = -1 ∧ (0 : Int) < 1) ∨ (a = -1 ∧ (1 : Int) < 1) at h; change errF (allOf []) [] _ 0 0 0 [] [b] = 0 at hw; revert hw; simp [errF, needF, preErr, failErr, takeErr, stepErr, needErr]; omega)
      | (exfalso; change (b = -1 ∧ (0 : Int) < 1) ∨ (a = -1 ∧ (1 : Int) < 1) at h; change errF (allOf []) [] _ 0 0 0 [] [b] = 0 at hw; revert hw; simp [errF, needF, preErr, failErr, takeErr, stepErr, needErr]; (repeat' split) <;> omega)
      | (exfalso; change (b = -1 ∧ (0 : Int) < 2) ∨ (a = -1 ∧ (1 : Int) < 2) at h; change errF (allOf []) [] _ 0 0 0 [] [a, b] = 0 at hw; revert hw; simp [errF, needF, preErr, failErr, takeErr, stepErr, needErr]; (repeat' split) <;> omega)
  · exfalso
    have e : takesM op = 0 := by
      have : rowOf op = ⟨⟨#[]⟩, -1, -1, 0, 0, false⟩ := by unfold rowOf; rw [if_neg hin]
      unfold takesM
      rw [this]
      rfl
    rw [e] at h
    omega
end Go.Proofs.YtdilmfnijkjiaaaDoor.K
