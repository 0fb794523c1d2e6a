import Derived.Test.YtdilmfnijkjiaaaDoorK8
set_option maxRecDepth 100000
set_option linter.unusedSimpArgs false
set_option linter.unusedVariables false
namespace Go.Proofs.YtdilmfnijkjiaaaDoor.K
open Go.RowKit
def thereB (m : Nat) (n : Int) : Bool := decide (0 ≤ n) && decide (n < m + 2)
set_option maxHeartbeats 400000 in
theorem there_calls (A : Option Addr) (m c : Nat) (n : Int) (w : World) (hm : m ≤ 9223372036854775800) : Calls Tryd.prog 124 #[.slice A m c, .int .i64 n] w fun e w' => e = .returned (.bool (thereB m n)) ∧ w = w' := by
  by_cases h : 0 ≤ n
  · have e : thereB m n = decide (n < (m : Int) + 2) := by simp [thereB, h]
    rw [e]
    clear e
    go_enter Tryd.func124, Tryd.ntmps124
    go_wp2
    go_ret
    exact ⟨rfl, rfl⟩
  · have e : thereB m n = false := by simp [thereB, h]
    rw [e]
    clear e
    go_enter Tryd.func124, Tryd.ntmps124
    go_wp2
    go_ret
    exact ⟨rfl, rfl⟩
def objB (ts : List Ty) (n : Int) : Bool := decide (1 < n) && thereB ts.length n && decide (2 ≤ (tyAt ts (n - 2)).kind) && decide ((tyAt ts (n - 2)).kind ≤ 4)
set_option maxHeartbeats 400000 in
theorem obj_calls (A : Option Addr) (c : Nat) (ts : List Ty) (n : Int) (w : World) (hT : TySl w A c ts) (hm : ts.length ≤ 9223372036854775800) : Calls Tryd.prog 125 #[.slice A ts.length c, .int .i64 n] w fun e w' => e = .returned (.bool (objB ts n)) ∧ w = w' := by
  have HT := Lib.hid (there_calls A ts.length c n w hm)
  by_cases h : 1 < n
  · by_cases h2 : n < ts.length + 2
    · have et : thereB ts.length n = true := by simp [thereB]; omega
      rw [et] at HT
      obtain ⟨ad, A', c', rfl, g0, _, _, _⟩ := hT.get (n - 2) (by omega) (by omega)
      have q0 : 0 ≤ n - 2 := by omega
      have q1 : n - 2 < ts.length := by omega
      by_cases h3 : 2 ≤ (tyAt ts (n - 2)).kind
      · have e : objB ts n = decide ((tyAt ts (n - 2)).kind ≤ 4) := by simp [objB, et, h, h3]
        rw [e]
        clear e et hT
        have h3' : decide (2 ≤ (tyAt ts (n - 2)).kind) = true := decide_eq_true h3
        go_enter Tryd.func125, Tryd.ntmps125
        go_wp2_with (go_at_call 124; refine HT.out.mono ?_; rintro e w' ⟨rfl, rfl⟩)
        go_ret
        exact ⟨rfl, rfl⟩
      · have e : objB ts n = false := by simp [objB, et, h, h3]
        rw [e]
        clear e et hT
        have h3' : decide (2 ≤ (tyAt ts (n - 2)).kind) = false := decide_eq_false h3
        go_enter Tryd.func125, Tryd.ntmps125
        go_wp2_with (go_at_call 124; refine HT.out.mono ?_; rintro e w' ⟨rfl, rfl⟩)
        go_ret
        exact ⟨rfl, rfl⟩
    · have et : thereB ts.length n = false := by simp [thereB]; omega
      rw [et] at HT
      have e : objB ts n = false := by simp [objB, et]
      rw [e]
      clear e et hT
      go_enter Tryd.func125, Tryd.ntmps125
      go_wp2_with (go_at_call 124; refine HT.out.mono ?_; rintro e w' ⟨rfl, rfl⟩)
      go_ret
      exact ⟨rfl, rfl⟩
  · have e : objB ts n = false := by simp [objB, h]
    rw [e]
    clear e hT
    have h' : decide (1 < n) = false := decide_eq_false h
    go_enter Tryd.func125, Tryd.ntmps125
    go_wp2
    go_ret
    exact ⟨rfl, rfl⟩
def mostOf (k : Int) : Int := if k = 2 then 12 else if k = 4 then 6 else 0
/-- May this type be? -/
def tyOk (ts : List Ty) (x : Ty) : Bool :=
  decide (2 ≤ x.kind) && decide (x.kind ≤ 5) && decide ((x.parts.length : Int) ≤ mostOf x.kind) && x.parts.all (thereB ts.length) &&
  (x.kind != 2 || x.of == 0) && (x.kind != 5 || objB ts x.of) && thereB ts.length x.of
abbrev tyV (k : Int) (A : Option Addr) (n c : Nat) (o : Int) : Value := .agg #[.int .i64 k, .slice A n c, .int .i64 o]
end Go.Proofs.YtdilmfnijkjiaaaDoor.K
