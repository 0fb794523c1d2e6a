import Derived.Test.YtdilmfnijkjiaaaDoorK67
set_option maxRecDepth 100000
set_option linter.unusedSimpArgs false
set_option linter.unusedVariables false
namespace Go.Proofs.YtdilmfnijkjiaaaDoor.K
open Go.RowKit
theorem names_all : ∀ n : Fin 38, ¬ (rws.getD n ⟨⟨#[]⟩, -1, -1, 0, 0, false⟩).name = ⟨#[]⟩ ∧ 0 ≤ (rws.getD n ⟨⟨#[]⟩, -1, -1, 0, 0, false⟩).form ∧ opOf (rws.getD n ⟨⟨#[]⟩, -1, -1, 0, 0, false⟩).name = (n : Nat) := by decide
theorem in_table {n : Int} (h : 0 ≤ n ∧ n < 38) : ¬ nameOf n = ⟨#[]⟩ ∧ 0 ≤ (rowOf n).form ∧ opOf (nameOf n) = n := by
  have e : rowOf n = rws.getD n.toNat ⟨⟨#[]⟩, -1, -1, 0, 0, false⟩ := by unfold rowOf; rw [if_pos h]
  have h1 := names_all ⟨n.toNat, by omega⟩
  unfold nameOf
  rw [e]
  refine ⟨h1.1, h1.2.1, h1.2.2.trans ?_⟩
  show ((n.toNat : Nat) : Int) = n
  omega
theorem out_table {n : Int} (h : ¬ (0 ≤ n ∧ n < 38)) : nameOf n = ⟨#[]⟩ ∧ (rowOf n).form = -1 := by
  unfold nameOf rowOf
  rw [if_neg h]
  exact ⟨rfl, rfl⟩
theorem name_own {n m : Int} (h : 0 ≤ n ∧ n < 38) (hm : ¬ n = m) : ¬ nameOf m = nameOf n := fun e => by
  by_cases hr : 0 ≤ m ∧ m < 38
  · have h1 := (in_table h).2.2
    have h2 := (in_table hr).2.2
    rw [e, h1] at h2
    exact hm h2
  · exact (in_table h).1 (e.symm.trans (out_table hr).1)
theorem makes_not {n : Int} (h : makesB n = true) : endsB n = false ∧ callsB n = false := by
  simp only [makesB, Bool.or_eq_true, beq_iff_eq] at h
  rcases h with (rfl | rfl) | rfl <;> exact ⟨rfl, rfl⟩

set_option maxHeartbeats 2000000 in
theorem names_lo (n m : Int) (hn : n < 0) (w : World) (hE : Env w) : Calls Tryd.prog 13 #[.int .i64 n, .int .i64 m] w fun e w' => e = .returned (.bool true) ∧ Below w.heap.size w w' := by
  have h0 : ¬ (0 : Int) ≤ n := by omega
  have hout := out_table (n := n) (by omega)
  have HS := Lib.hid (shownI_calls w hE)
  have HN := Lib.hid (nameI_calls n)
  unfold NamePost at HN
  have HF := Lib.hid (formI_calls n)
  unfold IntPost at HF
  clear hE
  rw [hout.1] at HN
  rw [hout.2] at HF
  clear hout hn
  go_enter Tryd.func13, Tryd.ntmps13
  go_wp2_with fail
  refine HS.out.mono ?_
  rintro e w1 ⟨rfl, hb⟩
  have HB1 := Lib.hid hb
  clear hb HS
  go_wp2_with fail
  refine (HN.out _).mono ?_
  rintro e w2 ⟨rfl, hb⟩
  have HB2 := Lib.hid (below_then HB1.out hb)
  clear hb
  go_wp2_with fail
  refine (HF.out _).mono ?_
  rintro e w3 ⟨rfl, hb⟩
  have HB3 := Lib.hid (below_then HB2.out hb)
  clear hb
  cases hmk : makesB n with
  | false =>
    have HMK := Lib.hid (makesI_calls n)
    rw [hmk] at HMK
    clear hmk
    go_wp2_with (go_at_call 46; refine (HMK.out _).mono ?_; rintro e w' ⟨rfl, rfl⟩)
    go_ret
    exact ⟨rfl, HB3.out⟩
  | true =>
    have HMK := Lib.hid (makesI_calls n)
    have HEN := Lib.hid (endsI_calls n)
    have HCA := Lib.hid (callsI_calls n)
    rw [hmk] at HMK
    rw [(makes_not hmk).1] at HEN
    rw [(makes_not hmk).2] at HCA
    clear hmk
    go_wp2_with (first | (go_at_call 46; refine (HMK.out _).mono ?_; rintro e w' ⟨rfl, rfl⟩) | (go_at_call 47; refine (HEN.out _).mono ?_; rintro e w' ⟨rfl, rfl⟩) | (go_at_call 48; refine (HCA.out _).mono ?_; rintro e w' ⟨rfl, rfl⟩))
    go_ret
    exact ⟨rfl, HB3.out⟩
set_option maxHeartbeats 2000000 in
theorem names_hi (n m : Int) (hn : 38 ≤ n) (w : World) (hE : Env w) : Calls Tryd.prog 13 #[.int .i64 n, .int .i64 m] w fun e w' => e = .returned (.bool true) ∧ Below w.heap.size w w' := by
  have h0 : (0 : Int) ≤ n := by omega
  have h1 : ¬ n < 38 := by omega
  have hout := out_table (n := n) (by omega)
  have HS := Lib.hid (shownI_calls w hE)
  have HN := Lib.hid (nameI_calls n)
  unfold NamePost at HN
  have HF := Lib.hid (formI_calls n)
  unfold IntPost at HF
  clear hE
  rw [hout.1] at HN
  rw [hout.2] at HF
  clear hout hn
  go_enter Tryd.func13, Tryd.ntmps13
  go_wp2_with fail
  refine HS.out.mono ?_
  rintro e w1 ⟨rfl, hb⟩
  have HB1 := Lib.hid hb
  clear hb HS
  go_wp2_with fail
  refine (HN.out _).mono ?_
  rintro e w2 ⟨rfl, hb⟩
  have HB2 := Lib.hid (below_then HB1.out hb)
  clear hb
  go_wp2_with fail
  refine (HF.out _).mono ?_
  rintro e w3 ⟨rfl, hb⟩
  have HB3 := Lib.hid (below_then HB2.out hb)
  clear hb
  cases hmk : makesB n with
  | false =>
    have HMK := Lib.hid (makesI_calls n)
    rw [hmk] at HMK
    clear hmk
    go_wp2_with (go_at_call 46; refine (HMK.out _).mono ?_; rintro e w' ⟨rfl, rfl⟩)
    go_ret
    exact ⟨rfl, HB3.out⟩
  | true =>
    have HMK := Lib.hid (makesI_calls n)
    have HEN := Lib.hid (endsI_calls n)
    have HCA := Lib.hid (callsI_calls n)
    rw [hmk] at HMK
    rw [(makes_not hmk).1] at HEN
    rw [(makes_not hmk).2] at HCA
    clear hmk
    go_wp2_with (first | (go_at_call 46; refine (HMK.out _).mono ?_; rintro e w' ⟨rfl, rfl⟩) | (go_at_call 47; refine (HEN.out _).mono ?_; rintro e w' ⟨rfl, rfl⟩) | (go_at_call 48; refine (HCA.out _).mono ?_; rintro e w' ⟨rfl, rfl⟩))
    go_ret
    exact ⟨rfl, HB3.out⟩
set_option maxHeartbeats 2000000 in
theorem names_in (n m : Int) (h0 : 0 ≤ n) (h1 : n < 38) (w : World) (hE : Env w) : Calls Tryd.prog 13 #[.int .i64 n, .int .i64 m] w fun e w' => e = .returned (.bool true) ∧ Below w.heap.size w w' := by
  have hin := in_table ⟨h0, h1⟩
  have HS := Lib.hid (shownI_calls w hE)
  have HN := Lib.hid (nameI_calls n)
  unfold NamePost at HN
  have HF := Lib.hid (formI_calls n)
  unfold IntPost at HF
  clear hE
  have HO := Lib.hid (opI_calls (nameOf n))
  unfold OpPost at HO
  rw [hin.2.2] at HO
  have HNM := Lib.hid (nameI_calls m)
  unfold NamePost at HNM
  have hne := str_nonempty hin.1
  have hfm : (0 : Int) ≤ (rowOf n).form := hin.2.1
  have hnn : (n != n) = false := by simp
  by_cases hm : n = m
  · subst hm
    generalize (rowOf n).form = fm at *
    generalize nameOf n = nm at *
    clear hin
    go_enter Tryd.func13, Tryd.ntmps13
    go_wp2_with fail
    refine HS.out.mono ?_
    rintro e w1 ⟨rfl, hb⟩
    have HB1 := Lib.hid hb
    clear hb HS
    go_wp2_with fail
    refine (HN.out _).mono ?_
    rintro e w2 ⟨rfl, hb⟩
    have HB2 := Lib.hid (below_then HB1.out hb)
    clear hb
    go_wp2_with fail
    refine (HF.out _).mono ?_
    rintro e w3 ⟨rfl, hb⟩
    have HB3 := Lib.hid (below_then HB2.out hb)
    clear hb
    go_wp2_with fail
    refine (HO.out _).mono ?_
    rintro e w4 ⟨rfl, hb⟩
    have HB4 := Lib.hid (below_then HB3.out hb)
    clear hb
    cases hmk : makesB n with
    | false =>
      have HMK := Lib.hid (makesI_calls n)
      rw [hmk] at HMK
      clear hmk
      go_wp2_with (go_at_call 46; refine (HMK.out _).mono ?_; rintro e w' ⟨rfl, rfl⟩)
      go_ret
      exact ⟨rfl, HB4.out⟩
    | true =>
      have HMK := Lib.hid (makesI_calls n)
      have HEN := Lib.hid (endsI_calls n)
      have HCA := Lib.hid (callsI_calls n)
      rw [hmk] at HMK
      rw [(makes_not hmk).1] at HEN
      rw [(makes_not hmk).2] at HCA
      clear hmk
      go_wp2_with (first | (go_at_call 46; refine (HMK.out _).mono ?_; rintro e w' ⟨rfl, rfl⟩) | (go_at_call 47; refine (HEN.out _).mono ?_; rintro e w' ⟨rfl, rfl⟩) | (go_at_call 48; refine (HCA.out _).mono ?_; rintro e w' ⟨rfl, rfl⟩))
      go_ret
      exact ⟨rfl, HB4.out⟩
  · have hmm : (n != m) = true := bne_iff_ne.2 hm
    have hun := str_ne (name_own ⟨h0, h1⟩ hm)
    generalize (rowOf n).form = fm at *
    generalize nameOf m = nm2 at *
    generalize nameOf n = nm at *
    clear hin hm
    go_enter Tryd.func13, Tryd.ntmps13
    go_wp2_with fail
    refine HS.out.mono ?_
    rintro e w1 ⟨rfl, hb⟩
    have HB1 := Lib.hid hb
    clear hb HS
    go_wp2_with fail
    refine (HN.out _).mono ?_
    rintro e w2 ⟨rfl, hb⟩
    have HB2 := Lib.hid (below_then HB1.out hb)
    clear hb
    go_wp2_with fail
    refine (HF.out _).mono ?_
    rintro e w3 ⟨rfl, hb⟩
    have HB3 := Lib.hid (below_then HB2.out hb)
    clear hb
    go_wp2_with fail
    refine (HO.out _).mono ?_
    rintro e w4 ⟨rfl, hb⟩
    have HB4 := Lib.hid (below_then HB3.out hb)
    clear hb
    go_wp2_with fail
    refine (HNM.out _).mono ?_
    rintro e w5 ⟨rfl, hb⟩
    have HB5 := Lib.hid (below_then HB4.out hb)
    clear hb
    cases hmk : makesB n with
    | false =>
      have HMK := Lib.hid (makesI_calls n)
      rw [hmk] at HMK
      clear hmk
      go_wp2_with (go_at_call 46; refine (HMK.out _).mono ?_; rintro e w' ⟨rfl, rfl⟩)
      go_ret
      exact ⟨rfl, HB5.out⟩
    | true =>
      have HMK := Lib.hid (makesI_calls n)
      have HEN := Lib.hid (endsI_calls n)
      have HCA := Lib.hid (callsI_calls n)
      rw [hmk] at HMK
      rw [(makes_not hmk).1] at HEN
      rw [(makes_not hmk).2] at HCA
      clear hmk
      go_wp2_with (first | (go_at_call 46; refine (HMK.out _).mono ?_; rintro e w' ⟨rfl, rfl⟩) | (go_at_call 47; refine (HEN.out _).mono ?_; rintro e w' ⟨rfl, rfl⟩) | (go_at_call 48; refine (HCA.out _).mono ?_; rintro e w' ⟨rfl, rfl⟩))
      go_ret
      exact ⟨rfl, HB5.out⟩
theorem instrNames_calls (n m : Int) (w : World) (hE : Env w) : Calls Tryd.prog 13 #[.int .i64 n, .int .i64 m] w fun e w' => e = .returned (.bool true) ∧ Below w.heap.size w w' := by
  by_cases h0 : n < 0
  · exact names_lo n m h0 w hE
  by_cases h1 : n < 38
  · exact names_in n m (by omega) h1 w hE
  · exact names_hi n m (by omega) w hE
end Go.Proofs.YtdilmfnijkjiaaaDoor.K
