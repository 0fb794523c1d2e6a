import Derived.Test.YtdilmfnijkjiaaaDoorK41
set_option maxRecDepth 100000
set_option linter.unusedSimpArgs false
set_option linter.unusedVariables false
namespace Go.Proofs.YtdilmfnijkjiaaaDoor.K
open Go.RowKit
theorem kinds_of {ts : List Ty} (hok : tysOk ts) (n : Int) : kOf (allOf ts) n = -1 ∨ kOf (allOf ts) n = 0 ∧ n = 0 ∨ kOf (allOf ts) n = 1 ∧ n = 1 ∨ (2 ≤ kOf (allOf ts) n ∧ kOf (allOf ts) n ≤ 5 ∧ 2 ≤ n ∧ n - 2 < ts.length ∧ tyAt (allOf ts) n = tyAt ts (n - 2)) := by
  by_cases h0 : n < 0
  · left; unfold kOf; rw [if_neg (by omega)]
  by_cases e0 : n = 0
  · subst e0; right; left; exact ⟨by unfold kOf; rw [if_pos (by simp [allOf]; omega)]; rfl, rfl⟩
  by_cases e1 : n = 1
  · subst e1; right; right; left; exact ⟨by unfold kOf; rw [if_pos (by simp [allOf]; omega)]; rfl, rfl⟩
  have hk := k_all ts n (by omega)
  by_cases hl : n - 2 < ts.length
  · right; right; right
    rw [if_pos hl] at hk
    obtain ⟨m, rfl⟩ : ∃ m : Nat, n = (m : Int) + 2 := ⟨(n - 2).toNat, by omega⟩
    have em : ((m : Int) + 2 - 2) = m := by omega
    rw [em] at hk hl ⊢
    have hm : tyAt ts (m : Int) ∈ ts := by
      unfold tyAt
      rw [List.getD_eq_getElem?_getD, Int.toNat_natCast, List.getElem?_eq_getElem (by omega)]
      exact List.getElem_mem _
    have h1 := hok.2 _ hm
    simp only [tyOk, Bool.and_eq_true, decide_eq_true_eq] at h1
    have h2 := h1.1.1.1.1
    refine ⟨by omega, by omega, by omega, hl, ?_⟩
    unfold tyAt allOf
    rw [show ((m : Int) + 2).toNat = m + 2 by omega, Int.toNat_natCast]
    rfl
  · left; rw [hk, if_neg hl]
set_option maxHeartbeats 1000000 in
theorem of3_low (A : Option Addr) (c : Nat) (ts : List Ty) (n k : Int) (w : World) (HK : Hid (Calls Tryd.prog 62 #[.slice A ts.length c, .int .i64 n] w fun e w' => e = .returned (.int .i64 k) ∧ w = w')) (h : k ≤ 2) :
    Calls Tryd.prog 103 #[.slice A ts.length c, .int .i64 n] w fun e w' => e = .returned (.int .i64 (-1)) ∧ w = w' := by
  have b3 : (k == 3) = false := beq_eq_false_iff_ne.2 (by omega)
  have b4 : (k == 4) = false := beq_eq_false_iff_ne.2 (by omega)
  have b5 : (k == 5) = false := beq_eq_false_iff_ne.2 (by omega)
  clear h
  go_enter Tryd.func103, Tryd.ntmps103
  go_wp2_with fail
  refine HK.out.mono ?_
  rintro e w' ⟨rfl, rfl⟩
  go_wp2_with fail
  go_ret
  exact ⟨rfl, rfl⟩
set_option maxHeartbeats 1000000 in
theorem of3_high (ad : Addr) (c : Nat) (ts : List Ty) (m : Nat) (k o : Int) (w : World) (HK : Hid (Calls Tryd.prog 62 #[.slice (some ad) ts.length c, .int .i64 ((m : Int) + 2)] w fun e w' => e = .returned (.int .i64 k) ∧ w = w')) (h : k = 3 ∨ k = 4 ∨ k = 5) (hm : m < ts.length) (hw : wrap64 (m : Int) = m)
    (g2 : w.cell? ⟨(ad.add (m * 3)).block, (ad.add (m * 3)).off + 2, none⟩ = some (.int .i64 o)) :
    Calls Tryd.prog 103 #[.slice (some ad) ts.length c, .int .i64 ((m : Int) + 2)] w fun e w' => e = .returned (.int .i64 o) ∧ w = w' := by
  have hmI : (m : Int) < (ts.length : Int) := by omega
  rcases h with rfl | rfl | rfl
  all_goals
    go_enter Tryd.func103, Tryd.ntmps103
    go_wp2_with fail
    refine HK.out.mono ?_
    rintro e w' ⟨rfl, rfl⟩
    go_wp2_with fail
    go_ret
    exact ⟨rfl, rfl⟩
theorem of3_calls (A : Option Addr) (c : Nat) (ts : List Ty) (n : Int) (w : World) (hT : TySl w A c ts) (hok : tysOk ts) (hr : n ≤ 9223372036854775807) :
    Calls Tryd.prog 103 #[.slice A ts.length c, .int .i64 n] w fun e w' => e = .returned (.int .i64 (ofOf (allOf ts) n)) ∧ w = w' := by
  have HK := Lib.hid (kind3_calls A c ts n w hT hr)
  by_cases hl : kOf (allOf ts) n ≤ 2
  · have e : ofOf (allOf ts) n = -1 := by unfold ofOf; rw [if_pos hl]
    rw [e]
    exact of3_low A c ts n _ w HK hl
  · rcases kinds_of hok n with h | h | h | ⟨h1, h2, h3, h4, h5⟩
    · omega
    · omega
    · omega
    · have e : ofOf (allOf ts) n = (tyAt ts (n - 2)).of := by unfold ofOf; rw [if_neg hl, h5]
      rw [e]
      obtain ⟨m, rfl⟩ : ∃ m : Nat, n = (m : Int) + 2 := ⟨(n - 2).toNat, by omega⟩
      have em : ((m : Int) + 2 - 2) = m := by omega
      rw [em] at h4 ⊢
      obtain ⟨ad, A', c', rfl, g0, g1, g2, g3⟩ := hT.get (m : Int) (by omega) h4
      rw [Int.toNat_natCast] at g2
      exact of3_high ad c ts m _ _ w HK (by omega) (by omega) (by unfold wrap64; omega) g2
def PartsPost (w : World) (ps : List Int) (e : Ending) (w' : World) : Prop := ∃ B d, e = .returned (.slice B ps.length d) ∧ IntSl w B d ps ∧ w = w'
set_option maxHeartbeats 1000000 in
theorem parts3_low (A : Option Addr) (c : Nat) (ts : List Ty) (n k : Int) (w : World) (HK : Hid (Calls Tryd.prog 62 #[.slice A ts.length c, .int .i64 n] w fun e w' => e = .returned (.int .i64 k) ∧ w = w')) (h2 : k ≠ 2) (h4 : k ≠ 4) :
    Calls Tryd.prog 96 #[.slice A ts.length c, .int .i64 n] w (PartsPost w []) := by
  have b2 : (k == 2) = false := beq_eq_false_iff_ne.2 h2
  have b4 : (k == 4) = false := beq_eq_false_iff_ne.2 h4
  clear h2 h4
  go_enter Tryd.func96, Tryd.ntmps96
  go_wp2_with fail
  refine HK.out.mono ?_
  rintro e w' ⟨rfl, rfl⟩
  go_wp2_with fail
  go_ret
  exact ⟨none, 0, rfl, ⟨by simp, by omega, fun _ => rfl, (fun ad e => by cases e)⟩, rfl⟩
set_option maxHeartbeats 1000000 in
theorem parts3_high (ad : Addr) (c : Nat) (ts : List Ty) (m : Nat) (k : Int) (B : Option Addr) (d : Nat) (ps : List Int) (w : World) (HK : Hid (Calls Tryd.prog 62 #[.slice (some ad) ts.length c, .int .i64 ((m : Int) + 2)] w fun e w' => e = .returned (.int .i64 k) ∧ w = w')) (h : k = 2 ∨ k = 4) (hm : m < ts.length) (hw : wrap64 (m : Int) = m)
    (g1 : w.cell? ⟨(ad.add (m * 3)).block, (ad.add (m * 3)).off + 1, none⟩ = some (.slice B ps.length d)) (HS : Hid (IntSl w B d ps)) :
    Calls Tryd.prog 96 #[.slice (some ad) ts.length c, .int .i64 ((m : Int) + 2)] w (PartsPost w ps) := by
  have hmI : (m : Int) < (ts.length : Int) := by omega
  rcases h with rfl | rfl
  all_goals
    go_enter Tryd.func96, Tryd.ntmps96
    go_wp2_with fail
    refine HK.out.mono ?_
    rintro e w' ⟨rfl, rfl⟩
    go_wp2_with fail
    go_ret
    exact ⟨B, d, rfl, HS.out, rfl⟩
theorem parts3_calls (A : Option Addr) (c : Nat) (ts : List Ty) (n : Int) (w : World) (hT : TySl w A c ts) (hok : tysOk ts) (hr : n ≤ 9223372036854775807) :
    Calls Tryd.prog 96 #[.slice A ts.length c, .int .i64 n] w (PartsPost w (partsOf (allOf ts) n)) := by
  have HK := Lib.hid (kind3_calls A c ts n w hT hr)
  rcases kinds_of hok n with h | ⟨h, rfl⟩ | ⟨h, rfl⟩ | ⟨h1, h2, h3, h4, h5⟩
  · have e : partsOf (allOf ts) n = [] := by
      unfold partsOf
      unfold kOf at h
      split
      · rename_i hin
        rw [if_pos hin] at h
        exfalso
        have hm : tyAt (allOf ts) n ∈ allOf ts := by
          unfold tyAt
          rw [List.getD_eq_getElem?_getD, List.getElem?_eq_getElem (by omega)]
          exact List.getElem_mem _
        simp only [allOf, List.mem_cons] at hm
        rcases hm with k | k | k
        · simp only [allOf] at k h; rw [k] at h; simp [base0] at h
        · simp only [allOf] at k h; rw [k] at h; simp [base1] at h
        · have q := hok.2 _ k
          simp only [tyOk, Bool.and_eq_true, decide_eq_true_eq] at q
          have := q.1.1.1.1.1
          simp only [allOf] at this h
          omega
      · rfl
    rw [e]
    exact parts3_low A c ts n _ w HK (by omega) (by omega)
  · have e : partsOf (allOf ts) 0 = [] := by unfold partsOf; rw [if_pos (by simp [allOf]; omega)]; rfl
    rw [e]
    exact parts3_low A c ts 0 _ w HK (by omega) (by omega)
  · have e : partsOf (allOf ts) 1 = [] := by unfold partsOf; rw [if_pos (by simp [allOf]; omega)]; rfl
    rw [e]
    exact parts3_low A c ts 1 _ w HK (by omega) (by omega)
  · obtain ⟨m, rfl⟩ : ∃ m : Nat, n = (m : Int) + 2 := ⟨(n - 2).toNat, by omega⟩
    have em : ((m : Int) + 2 - 2) = m := by omega
    rw [em] at h4 h5
    have e : partsOf (allOf ts) ((m : Int) + 2) = (tyAt ts (m : Int)).parts := by
      unfold partsOf
      rw [if_pos (by simp [allOf]; omega), h5]
    rw [e]
    have hkind : kOf (allOf ts) ((m : Int) + 2) = (tyAt ts (m : Int)).kind := by
      unfold kOf
      rw [if_pos (by simp [allOf]; omega), h5]
    by_cases hk : kOf (allOf ts) ((m : Int) + 2) = 2 ∨ kOf (allOf ts) ((m : Int) + 2) = 4
    · obtain ⟨ad, A', c', rfl, g0, g1, g2, g3⟩ := hT.get (m : Int) (by omega) h4
      rw [Int.toNat_natCast] at g1
      exact parts3_high ad c ts m _ A' c' _ w HK hk (by omega) (by unfold wrap64; omega) g1 (Lib.hid g3)
    · have hmem : tyAt ts (m : Int) ∈ ts := by
        unfold tyAt
        rw [List.getD_eq_getElem?_getD, Int.toNat_natCast, List.getElem?_eq_getElem (by omega)]
        exact List.getElem_mem _
      have q := hok.2 _ hmem
      simp only [tyOk, Bool.and_eq_true, decide_eq_true_eq] at q
      have q2 := q.1.1.1.1.2
      have e2 : (tyAt ts (m : Int)).parts = [] := by
        apply List.eq_nil_of_length_eq_zero
        unfold mostOf at q2
        rw [if_neg (by rw [← hkind]; exact fun k => hk (.inl k)), if_neg (by rw [← hkind]; exact fun k => hk (.inr k))] at q2
        omega
      rw [e2]
      exact parts3_low A c ts _ _ w HK (fun k => hk (.inl k)) (fun k => hk (.inr k))
end Go.Proofs.YtdilmfnijkjiaaaDoor.K
