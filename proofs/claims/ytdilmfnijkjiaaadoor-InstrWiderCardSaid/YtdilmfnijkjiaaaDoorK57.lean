import Derived.Test.YtdilmfnijkjiaaaDoorK51
set_option maxRecDepth 100000
set_option linter.unusedSimpArgs false
set_option linter.unusedVariables false
namespace Go.Proofs.YtdilmfnijkjiaaaDoor.K
open Go.RowKit
set_option maxHeartbeats 1000000 in
theorem parts3n_low (A : Option Addr) (c : Nat) (ts : List Ty) (n k : Int) (w : World) (HK : Hid (Calls Tryd.prog 62 #[.slice A ts.length c, .int .i64 n] w fun e w' => e = .returned (.int .i64 k) ∧ w = w')) (h2 : k ≠ 2) (h4 : k ≠ 4) :
    Calls Tryd.prog 96 #[.slice A ts.length c, .int .i64 n] w fun e w' => e = .returned (.slice none 0 0) ∧ w = w' := by
  have b2 : (k == 2) = false := beq_eq_false_iff_ne.2 h2
  have b4 : (k == 4) = false := beq_eq_false_iff_ne.2 h4
  clear h2 h4
  go_enter Tryd.func96, Tryd.ntmps96
  go_wp2_with fail
  refine HK.out.mono ?_
  rintro e w' ⟨rfl, rfl⟩
  go_wp2_with fail
  go_ret
  exact ⟨rfl, rfl⟩
set_option maxHeartbeats 1000000 in
theorem parts3n_high (ad : Addr) (c : Nat) (ts : List Ty) (m : Nat) (k : Int) (B : Option Addr) (d : Nat) (ps : List Int) (w : World) (HK : Hid (Calls Tryd.prog 62 #[.slice (some ad) ts.length c, .int .i64 ((m : Int) + 2)] w fun e w' => e = .returned (.int .i64 k) ∧ w = w')) (h : k = 2 ∨ k = 4) (hm : m < ts.length) (hw : wrap64 (m : Int) = m)
    (g1 : w.cell? ⟨(ad.add (m * 3)).block, (ad.add (m * 3)).off + 1, none⟩ = some (.slice B ps.length d)) :
    Calls Tryd.prog 96 #[.slice (some ad) ts.length c, .int .i64 ((m : Int) + 2)] w fun e w' => e = .returned (.slice B ps.length d) ∧ w = w' := by
  have hmI : (m : Int) < (ts.length : Int) := by omega
  rcases h with rfl | rfl
  all_goals
    go_enter Tryd.func96, Tryd.ntmps96
    go_wp2_with fail
    refine HK.out.mono ?_
    rintro e w' ⟨rfl, rfl⟩
    go_wp2_with fail
    go_ret
    exact ⟨rfl, rfl⟩
theorem parts3_named (A : Option Addr) (c : Nat) (ts : List Ty) (n : Int) (w : World) (hT : TySl w A c ts) (hok : tysOk ts) (hr : n ≤ 9223372036854775807) :
    ∃ B d, IntSl w B d (partsOf (allOf ts) n) ∧ ∀ W, Below w.heap.size w W → Calls Tryd.prog 96 #[.slice A ts.length c, .int .i64 n] W fun e w' => e = .returned (.slice B (partsOf (allOf ts) n).length d) ∧ W = w' := by
  have HK := fun W (h : Below w.heap.size w W) => Lib.hid (kind3_calls A c ts n W (hT.below h) hr)
  rcases kinds_of hok n with h | ⟨h, rfl⟩ | ⟨h, rfl⟩ | ⟨h1, h2, h3, h4, h5⟩
  · have e : partsOf (allOf ts) n = [] := by
      unfold partsOf
      unfold kOf at h
      split
      · rename_i hin
        rw [if_pos hin] at h
        exfalso
        have hm : tyAt (allOf ts) n ∈ allOf ts := by
          unfold tyAt
          rw [List.getD_eq_getElem?_getD, List.getElem?_eq_getElem (by omega)]
          exact List.getElem_mem _
        simp only [allOf, List.mem_cons] at hm
        rcases hm with k | k | k
        · simp only [allOf] at k h; rw [k] at h; simp [base0] at h
        · simp only [allOf] at k h; rw [k] at h; simp [base1] at h
        · have q := hok.2 _ k
          simp only [tyOk, Bool.and_eq_true, decide_eq_true_eq] at q
          have := q.1.1.1.1.1
          simp only [allOf] at this h
          omega
      · rfl
    rw [e]
    exact ⟨none, 0, ⟨by simp, by omega, fun _ => rfl, (fun ad e => by cases e)⟩, fun W h => parts3n_low A c ts n _ W (HK W h) (by omega) (by omega)⟩
  · have e : partsOf (allOf ts) 0 = [] := by unfold partsOf; rw [if_pos (by simp [allOf]; omega)]; rfl
    rw [e]
    exact ⟨none, 0, ⟨by simp, by omega, fun _ => rfl, (fun ad e => by cases e)⟩, fun W h => parts3n_low A c ts 0 _ W (HK W h) (by omega) (by omega)⟩
  · have e : partsOf (allOf ts) 1 = [] := by unfold partsOf; rw [if_pos (by simp [allOf]; omega)]; rfl
    rw [e]
    exact ⟨none, 0, ⟨by simp, by omega, fun _ => rfl, (fun ad e => by cases e)⟩, fun W h => parts3n_low A c ts 1 _ W (HK W h) (by omega) (by omega)⟩
  · obtain ⟨m, rfl⟩ : ∃ m : Nat, n = (m : Int) + 2 := ⟨(n - 2).toNat, by omega⟩
    have em : ((m : Int) + 2 - 2) = m := by omega
    rw [em] at h4 h5
    have e : partsOf (allOf ts) ((m : Int) + 2) = (tyAt ts (m : Int)).parts := by
      unfold partsOf
      rw [if_pos (by simp [allOf]; omega), h5]
    rw [e]
    have hkind : kOf (allOf ts) ((m : Int) + 2) = (tyAt ts (m : Int)).kind := by
      unfold kOf
      rw [if_pos (by simp [allOf]; omega), h5]
    by_cases hk : kOf (allOf ts) ((m : Int) + 2) = 2 ∨ kOf (allOf ts) ((m : Int) + 2) = 4
    · obtain ⟨ad, A', c', rfl, g0, g1, g2, g3⟩ := hT.get (m : Int) (by omega) h4
      rw [Int.toNat_natCast] at g1
      exact ⟨A', c', g3, fun W h => parts3n_high ad c ts m _ A' c' _ W (HK W h) hk (by omega) (by unfold wrap64; omega) (cell_below h g1)⟩
    · have hmem : tyAt ts (m : Int) ∈ ts := by
        unfold tyAt
        rw [List.getD_eq_getElem?_getD, Int.toNat_natCast, List.getElem?_eq_getElem (by omega)]
        exact List.getElem_mem _
      have q := hok.2 _ hmem
      simp only [tyOk, Bool.and_eq_true, decide_eq_true_eq] at q
      have q2 := q.1.1.1.1.2
      have e2 : (tyAt ts (m : Int)).parts = [] := by
        apply List.eq_nil_of_length_eq_zero
        unfold mostOf at q2
        rw [if_neg (by rw [← hkind]; exact fun k => hk (.inl k)), if_neg (by rw [← hkind]; exact fun k => hk (.inr k))] at q2
        omega
      rw [e2]
      exact ⟨none, 0, ⟨by simp, by omega, fun _ => rfl, (fun ad e => by cases e)⟩, fun W h => parts3n_low A c ts _ _ W (HK W h) (fun k => hk (.inl k)) (fun k => hk (.inr k))⟩
end Go.Proofs.YtdilmfnijkjiaaaDoor.K
