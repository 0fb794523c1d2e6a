import Derived.Test.YtdilmfnijkjiaaaDoorK13
set_option maxRecDepth 100000
set_option linter.unusedSimpArgs false
set_option linter.unusedVariables false
namespace Go.Proofs.YtdilmfnijkjiaaaDoor.K
open Go.RowKit
theorem k_all (ts : List Ty) (n : Int) (h : 2 ≤ n) : kOf (allOf ts) n = if n - 2 < ts.length then (tyAt ts (n - 2)).kind else -1 := by
  unfold kOf tyAt allOf
  obtain ⟨m, rfl⟩ : ∃ m : Nat, n = (m : Int) + 2 := ⟨(n - 2).toNat, by omega⟩
  have e1 : ((m : Int) + 2).toNat = m + 2 := by omega
  have e2 : ((m : Int) + 2 - 2).toNat = m := by omega
  rw [e1, e2]
  simp only [List.length_cons]
  by_cases hm : m < ts.length
  · rw [if_pos (by omega), if_pos (by omega)]
    rfl
  · rw [if_neg (by omega), if_neg (by omega)]
set_option maxHeartbeats 1000000 in
theorem kind3_calls (A : Option Addr) (c : Nat) (ts : List Ty) (n : Int) (w : World) (hT : TySl w A c ts) (hr : n ≤ 9223372036854775807) :
    Calls Tryd.prog 62 #[.slice A ts.length c, .int .i64 n] w fun e w' => e = .returned (.int .i64 (kOf (allOf ts) n)) ∧ w = w' := by
  have hcap : ts.length ≤ 9223372036854775807 := Nat.le_trans hT.1 hT.2.1
  by_cases h0 : n = 0
  · subst h0
    have e : kOf (allOf ts) 0 = 0 := by unfold kOf; rw [if_pos (by simp [allOf]; omega)]; rfl
    rw [e]
    clear hT e
    go_enter Tryd.func62, Tryd.ntmps62
    go_wp2
    go_ret
    exact ⟨rfl, rfl⟩
  by_cases h1 : n = 1
  · subst h1
    have e : kOf (allOf ts) 1 = 1 := by unfold kOf; rw [if_pos (by simp [allOf]; omega)]; rfl
    rw [e]
    clear hT e
    go_enter Tryd.func62, Tryd.ntmps62
    go_wp2
    go_ret
    exact ⟨rfl, rfl⟩
  have b0 : (n == 0) = false := beq_eq_false_iff_ne.2 h0
  have b1 : (n == 1) = false := beq_eq_false_iff_ne.2 h1
  by_cases hn : n < 0
  · have e : kOf (allOf ts) n = -1 := by unfold kOf; rw [if_neg (by omega)]
    rw [e]
    clear hT e
    go_enter Tryd.func62, Tryd.ntmps62
    go_wp2
    go_ret
    exact ⟨rfl, rfl⟩
  have hk := k_all ts n (by omega)
  obtain ⟨m, rfl⟩ : ∃ m : Nat, n = (m : Int) + 2 := ⟨(n - 2).toNat, by omega⟩
  have hw : wrap64 (m : Int) = m := by unfold wrap64; omega
  by_cases hm : ((m : Int) + 2) - 2 < ts.length
  · obtain ⟨ad, A', c', rfl, g0, g1, g2, g3⟩ := hT.get ((m : Int) + 2 - 2) (by omega) hm
    rw [if_pos hm] at hk
    rw [hk]
    clear hk hT
    have em : ((m : Int) + 2 - 2) = m := by omega
    rw [em] at g0 hm
    rw [em]
    simp only [Int.toNat_natCast] at g0
    have hm4 : ¬ (ts.length : Int) ≤ (m : Int) := by omega
    have hm5 : ¬ ts.length ≤ m := by omega
    have hm6 : m < ts.length := by omega
    clear g1 g2 g3 em
    go_enter Tryd.func62, Tryd.ntmps62
    go_wp2_with fail
    go_ret
    exact ⟨rfl, rfl⟩
  · rw [if_neg hm] at hk
    rw [hk]
    have hm' : ¬ (m : Int) < (ts.length : Int) := by omega
    have hm2 : (ts.length : Int) ≤ (m : Int) := by omega
    have hm3 : ts.length ≤ m := by omega
    clear hm
    clear hk hT
    go_enter Tryd.func62, Tryd.ntmps62
    go_wp2
    go_ret
    exact ⟨rfl, rfl⟩
end Go.Proofs.YtdilmfnijkjiaaaDoor.K
