import Derived.Test.YtdilmfnijkjiaaaDoorK3
set_option maxRecDepth 100000
namespace Go.Proofs.YtdilmfnijkjiaaaDoor.K
open Go.RowKit
theorem table_ext (n : Nat) (h : n < 38) : tableCells.extract (n * 6) (n * 6 + 6) = (rws.getD n ⟨⟨#[]⟩, -1, -1, 0, 0, false⟩).cells.toArray := by
  match n with
  | 0 => rfl
  | 1 => rfl
  | 2 => rfl
  | 3 => rfl
  | 4 => rfl
  | 5 => rfl
  | 6 => rfl
  | 7 => rfl
  | 8 => rfl
  | 9 => rfl
  | 10 => rfl
  | 11 => rfl
  | 12 => rfl
  | 13 => rfl
  | 14 => rfl
  | 15 => rfl
  | 16 => rfl
  | 17 => rfl
  | 18 => rfl
  | 19 => rfl
  | 20 => rfl
  | 21 => rfl
  | 22 => rfl
  | 23 => rfl
  | 24 => rfl
  | 25 => rfl
  | 26 => rfl
  | 27 => rfl
  | 28 => rfl
  | 29 => rfl
  | 30 => rfl
  | 31 => rfl
  | 32 => rfl
  | 33 => rfl
  | 34 => rfl
  | 35 => rfl
  | 36 => rfl
  | 37 => rfl
  | n + 38 => omega
theorem rowOf_in (n : Nat) (h : n < 38) : rowOf n = rws.getD n ⟨⟨#[]⟩, -1, -1, 0, 0, false⟩ := by
  unfold rowOf
  rw [if_pos (by omega)]
  rfl
theorem sz97 : (Tryd.prog.info? 97).map (·.size) = some 6 := by kernel_rfl
theorem run_sizeOf97 (w : World) : (sizeOf 97).run Tryd.prog w = .ok 6 w := by kernel_rfl
theorem run_isAgg97 (w : World) : (isAgg 97).run Tryd.prog w = .ok true w := by kernel_rfl
theorem index_table (n : Nat) (h : n < 38) (w : World) : (Instr.index 128 (.agg tableCells) (.int .i64 (n : Int))).run Tryd.prog w = .ok (.agg (rowOf n).cells.toArray) w := by
  rw [rowOf_in n h, ← table_ext n h]
  unfold Instr.index
  simp only [asIntOf, Sem.run_bind, Sem.run_pure, Result.andThen_ok, run_underlying Tryd.underlying128]
  rw [if_pos (by omega)]
  simp only [part, Sem.run_bind, run_isAgg97, Result.andThen_ok, if_true, run_sizeOf97, Sem.run_pure, Int.toNat_natCast]

theorem two_calls (f : Int) (w : World) : Calls Tryd.prog 81 #[.int .i64 f] w fun e w' => e = .returned (.bool (f == 7 || f == 8)) ∧ w = w' := by
  by_cases h7 : f = 7
  · subst h7
    go_enter Tryd.func81, Tryd.ntmps81
    go_wp2
    go_ret
    exact ⟨rfl, rfl⟩
  · have h : (f == 7) = false := beq_eq_false_iff_ne.2 h7
    go_enter Tryd.func81, Tryd.ntmps81
    go_wp2
    go_ret
    exact ⟨by rw [h]; rfl, rfl⟩
theorem is_calls (n : Int) (w : World) : Calls Tryd.prog 82 #[.int .i64 n] w fun e w' => e = .returned (.bool (decide (-4611686018427387904 ≤ n) && decide (n ≤ 4611686018427387903))) ∧ w = w' := by
  by_cases h : -4611686018427387904 ≤ n
  · go_enter Tryd.func82, Tryd.ntmps82
    go_wp2
    go_ret
    exact ⟨by first | rfl | (simp; done) | (simp; omega), rfl⟩
  · go_enter Tryd.func82, Tryd.ntmps82
    go_wp2
    go_ret
    exact ⟨by first | rfl | (simp; done) | (simp; omega), rfl⟩
theorem below_calls (n m : Int) (w : World) : Calls Tryd.prog 94 #[.int .i64 n, .int .i64 m] w fun e w' => e = .returned (.bool (decide (0 ≤ n) && decide (n < m))) ∧ w = w' := by
  by_cases h : 0 ≤ n
  · go_enter Tryd.func94, Tryd.ntmps94
    go_wp2
    go_ret
    exact ⟨by first | rfl | (simp; done) | (simp; omega), rfl⟩
  · go_enter Tryd.func94, Tryd.ntmps94
    go_wp2
    go_ret
    exact ⟨by first | rfl | (simp; done) | (simp; omega), rfl⟩
abbrev Rw.val (r : Rw) : Value := .agg #[.string r.name, .int .i64 r.form, .int .i64 r.kind, .int .i64 r.takes, .int .i64 r.leaves, .bool r.varies]
theorem bcell {w w1 : World} (hb : Below w.heap.size w w1) : (∀ b o, b < w.heap.size → w1.cell? ⟨b, o, none⟩ = w.cell? ⟨b, o, none⟩) ∧ (∀ b o, b < w.heap.size → w1.frozen? ⟨b, o, none⟩ = w.frozen? ⟨b, o, none⟩) := by
  exact ⟨fun b o h => hb.cell (p := ⟨b, o, none⟩) h, fun b o h => hb.frozen (p := ⟨b, o, none⟩) h⟩
set_option maxHeartbeats 400000 in
theorem of_row_in (op : Int) (h0 : 0 ≤ op) (h1 : op < 38) (w : World) : Calls Tryd.prog 67 #[.int .i64 op] w fun e w' => e = .returned (rowOf op).val ∧ Below w.heap.size w w' := by
  obtain ⟨n, rfl⟩ := Int.eq_ofNat_of_zero_le h0
  have hi : ∀ w : World, (Instr.index 128 (.agg tableCells) (.int .i64 (n : Int))).run Tryd.prog w = .ok (rowOf n).val w := index_table n (by omega)
  go_enter Tryd.func67, Tryd.ntmps67
  go_wp2_with fail
  refine (table_calls _).mono ?_
  rintro e w1 ⟨rfl, hb⟩
  have HB := Lib.hid hb
  obtain ⟨hc, hf⟩ := bcell hb
  have hz : w.heap.size < w1.heap.size := by have := hb.size; simp at this; omega
  clear hb
  go_wp2_with fail
  refine (table_calls _).mono ?_
  rintro e w2 ⟨rfl, hb⟩
  have HB2 := Lib.hid hb
  obtain ⟨hc2, hf2⟩ := bcell hb
  have hz2 : w.heap.size < w2.heap.size := by have := hb.size; omega
  clear hb
  go_wp2_with fail
  refine bodyPost_ret (v := (rowOf n).val) (by simp [results, Tryd.results67, go_sem, hc, hc2, hz, hz2]) rfl ⟨rfl, ?_⟩
  have b0 : Below w.heap.size w w2 := (((below_refl w).alloc (Nat.le_refl _) _).trans (HB.out.mono (by simp))).trans (HB2.out.mono (by omega))
  exact (((((b0.setCell (Nat.le_refl _) _).setCell (Nat.le_refl _) _).setCell (Nat.le_refl _) _).setCell (Nat.le_refl _) _).setCell (Nat.le_refl _) _).setCell (Nat.le_refl _) _
set_option maxHeartbeats 400000 in
theorem of_row_out (op : Int) (h : op < 0 ∨ 38 ≤ op) (w : World) : Calls Tryd.prog 67 #[.int .i64 op] w fun e w' => e = .returned (rowOf op).val ∧ Below w.heap.size w w' := by
  have hr : rowOf op = ⟨⟨#[]⟩, -1, -1, 0, 0, false⟩ := by unfold rowOf; rw [if_neg (by omega)]
  rw [hr]
  clear hr
  by_cases h0 : op < 0
  · clear h
    go_enter Tryd.func67, Tryd.ntmps67
    go_wp2
    refine bodyPost_ret (v := (Rw.mk ⟨#[]⟩ (-1) (-1) 0 0 false).val) (by simp [results, Tryd.results67, go_sem]) rfl ⟨rfl, ?_⟩
    exact (below_refl w).alloc (Nat.le_refl _) _
  · have h1 : ¬ op < 38 := by omega
    clear h
    go_enter Tryd.func67, Tryd.ntmps67
    go_wp2_with fail
    refine (table_calls _).mono ?_
    rintro e w1 ⟨rfl, hb⟩
    have HB := Lib.hid hb
    obtain ⟨hc, hf⟩ := bcell hb
    have hz : w.heap.size < w1.heap.size := by have := hb.size; simp at this; omega
    clear hb
    go_wp2_with fail
    refine bodyPost_ret (v := (Rw.mk ⟨#[]⟩ (-1) (-1) 0 0 false).val) (by simp [results, Tryd.results67, go_sem, hc, hz]) rfl ⟨rfl, ?_⟩
    have b0 : Below w.heap.size w w1 := ((below_refl w).alloc (Nat.le_refl _) _).trans (HB.out.mono (by simp))
    exact (((((b0.setCell (Nat.le_refl _) _).setCell (Nat.le_refl _) _).setCell (Nat.le_refl _) _).setCell (Nat.le_refl _) _).setCell (Nat.le_refl _) _).setCell (Nat.le_refl _) _
theorem of_row (op : Int) (w : World) : Calls Tryd.prog 67 #[.int .i64 op] w fun e w' => e = .returned (rowOf op).val ∧ Below w.heap.size w w' := by
  by_cases h : 0 ≤ op ∧ op < 38
  · exact of_row_in op h.1 h.2 w
  · exact of_row_out op (by omega) w
end Go.Proofs.YtdilmfnijkjiaaaDoor.K
