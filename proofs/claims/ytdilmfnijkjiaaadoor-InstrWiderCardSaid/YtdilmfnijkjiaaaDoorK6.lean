import Derived.Test.YtdilmfnijkjiaaaDoorK5
import Derived.Deep.RegionHeld3
set_option maxRecDepth 100000
set_option linter.unusedSimpArgs false
set_option linter.unusedVariables false
namespace Go.Proofs.YtdilmfnijkjiaaaDoor.K
open Go.RowKit
set_option maxHeartbeats 400000 in
theorem right_7t (op a b : Int) (g : Nat) (A : Option Addr) (nf c : Nat) (locals code : Int) (ts : List Ty) (w : World) (hT : Tab w g ts) (nm : ByteArray) (form kd tk lv : Int) (vr : Bool) (hr : rowOf op = ⟨nm, form, kd, tk, lv, vr⟩) (hf : form = 7) (hk : (kOf ts a == kd) = true) (hl : (partsOf ts a).length * 8 ≤ 140737488355328) :
    Calls Tryd.prog 58 #[inV op a b, scV g A nf c locals code] w fun e w' => e = .returned (.bool (belowB b (partsOf ts a).length)) ∧ Below w.heap.size w w' := by
  subst hf
  have HT := Lib.hid hT
  have HR := Lib.hid (of_row op)
  rw [hr] at HR
  clear hT hr
  have HB0 := Lib.hid (below_alloc' (o := .cells #[.pointer (some ⟨g, 0, none⟩), .slice A nf c, .int .i64 locals, .int .i64 code] 34) (below_alloc' (o := .cells #[.int .i64 op, .int .i64 a, .int .i64 b] 27) (below_refl w)))
  go_enter Tryd.func58, Tryd.ntmps58
  go_wp2_with fail
  refine (HR.out _).mono ?_
  rintro e w1 ⟨rfl, hb⟩
  have HB1 := Lib.hid (below_then HB0.out hb)
  obtain ⟨hc, hf⟩ := bcell hb
  have hz : w.heap.size + 1 < w1.heap.size := by have := hb.size; simp at this; omega
  have hz0 : w.heap.size < w1.heap.size := by omega
  clear hb
  have HL := Lib.hid hl
  clear hl
  go_wp2_with (go_at_call 81; refine (two_calls _ _).mono ?_; rintro e w' ⟨rfl, rfl⟩)
  have c1 : (w1.alloc (.cells #[.string nm, .int .i64 7, .int .i64 kd, .int .i64 tk, .int .i64 lv, .bool vr] 97)).cell? ⟨w.heap.size, 1, none⟩ = some (.int .i64 a) := by simp [go_sem, hc, hz0]
  have c2 : (w1.alloc (.cells #[.string nm, .int .i64 7, .int .i64 kd, .int .i64 tk, .int .i64 lv, .bool vr] 97)).cell? ⟨w.heap.size, 2, none⟩ = some (.int .i64 b) := by simp [go_sem, hc, hz0]
  have c3 : (w1.alloc (.cells #[.string nm, .int .i64 7, .int .i64 kd, .int .i64 tk, .int .i64 lv, .bool vr] 97)).cell? ⟨w.heap.size + 1, 0, none⟩ = some (.pointer (some ⟨g, 0, none⟩)) := by simp [go_sem, hc, hz]
  have c4 : (w1.alloc (.cells #[.string nm, .int .i64 7, .int .i64 kd, .int .i64 tk, .int .i64 lv, .bool vr] 97)).cell? ⟨w1.heap.size, 2, none⟩ = some (.int .i64 kd) := by simp [go_sem]
  have hB := below_alloc' (o := .cells #[.string nm, .int .i64 7, .int .i64 kd, .int .i64 tk, .int .i64 lv, .bool vr] 97) HB1.out
  go_region_held3 (fun w' => w'.cell? ⟨w.heap.size, 1, none⟩ = some (.int .i64 a) ∧ w'.cell? ⟨w.heap.size, 2, none⟩ = some (.int .i64 b) ∧ w'.cell? ⟨w.heap.size + 1, 0, none⟩ = some (.pointer (some ⟨g, 0, none⟩)) ∧ w'.cell? ⟨w1.heap.size, 2, none⟩ = some (.int .i64 kd) ∧ Below w.heap.size w w')
    (first | (go_split_ands; exact ⟨by assumption, by assumption, by assumption, by assumption, by assumption⟩) | (go_split_ands; exact ⟨by assumption, by assumption, by assumption, by assumption, below_drew' (by assumption)⟩) | (go_split_ands; exact ⟨cell_below (by assumption) (by assumption), cell_below (by assumption) (by assumption), cell_below (by assumption) (by assumption), cell_below (by assumption) (by assumption), below_then (by assumption) (by assumption)⟩))
    (first
      | (go_at_call 30; go_split_ands; refine (kind_calls g ts a _ (HT.out.below (by assumption))).mono ?_; rintro e w' ⟨rfl, rfl⟩)
      | (go_at_call 94; refine (below_calls _ _ _).mono ?_; rintro e w' ⟨rfl, rfl⟩)
      | (go_at_call 31; go_split_ands; refine (parts_calls g ts a _ (HT.out.below (by assumption)) HL.out).mono ?_; rintro e w2 ⟨v, rfl, ho, hb⟩; obtain ⟨A2, c2, rfl, hs⟩ := ho.sl; clear ho hs))
  go_wp2
  go_ret
  exact ⟨by first | rfl | (simp [belowB]; done), below_then (by assumption) (by assumption)⟩
set_option maxHeartbeats 400000 in
theorem right_7f (op a b : Int) (g : Nat) (A : Option Addr) (nf c : Nat) (locals code : Int) (ts : List Ty) (w : World) (hT : Tab w g ts) (nm : ByteArray) (form kd tk lv : Int) (vr : Bool) (hr : rowOf op = ⟨nm, form, kd, tk, lv, vr⟩) (hf : form = 7) (hk : (kOf ts a == kd) = false) (hl : (partsOf ts a).length * 8 ≤ 140737488355328) :
    Calls Tryd.prog 58 #[inV op a b, scV g A nf c locals code] w fun e w' => e = .returned (.bool (false)) ∧ Below w.heap.size w w' := by
  subst hf
  have HT := Lib.hid hT
  have HR := Lib.hid (of_row op)
  rw [hr] at HR
  clear hT hr
  have HB0 := Lib.hid (below_alloc' (o := .cells #[.pointer (some ⟨g, 0, none⟩), .slice A nf c, .int .i64 locals, .int .i64 code] 34) (below_alloc' (o := .cells #[.int .i64 op, .int .i64 a, .int .i64 b] 27) (below_refl w)))
  go_enter Tryd.func58, Tryd.ntmps58
  go_wp2_with fail
  refine (HR.out _).mono ?_
  rintro e w1 ⟨rfl, hb⟩
  have HB1 := Lib.hid (below_then HB0.out hb)
  obtain ⟨hc, hf⟩ := bcell hb
  have hz : w.heap.size + 1 < w1.heap.size := by have := hb.size; simp at this; omega
  have hz0 : w.heap.size < w1.heap.size := by omega
  clear hb
  have HL := Lib.hid hl
  clear hl
  go_wp2_with (go_at_call 81; refine (two_calls _ _).mono ?_; rintro e w' ⟨rfl, rfl⟩)
  go_quiet ((go_at_call 30; exact Calls.quiet_of_same ((kind_calls g ts a _ (HT.out.below (below_drewN' (below_alloc' HB1.out)))).mono fun _ _ h => ⟨h.1, h.2.symm⟩)))
  go_wp2
  go_ret
  exact ⟨by first | rfl | (simp [belowB]; done), below_drewN' (below_alloc' HB1.out)⟩

/-- What Right answers, by the instruction's row. -/
def rightR (r : Rw) (ts : List Ty) (nf : Nat) (locals code a b : Int) : Bool :=
  if twoB r.form = false ∧ b ≠ 0 then false
  else if r.form = 0 then a == 0
  else if r.form = 1 then isNum a
  else if r.form = 2 then belowB a 2
  else if r.form = 3 then belowB a locals
  else if r.form = 4 then belowB a code
  else if r.form = 5 then belowB a nf
  else if r.form = 9 then belowB a 256
  else if r.form = 6 then kOf ts a == r.kind
  else if r.form = 7 then kOf ts a == r.kind && belowB b (partsOf ts a).length
  else if r.form = 8 then kOf ts a == r.kind && belowB b nf
  else false
theorem rws_forms : ∀ n : Fin 38, -1 ≤ (rws.getD n ⟨⟨#[]⟩, -1, -1, 0, 0, false⟩).form ∧ (rws.getD n ⟨⟨#[]⟩, -1, -1, 0, 0, false⟩).form ≤ 9 := by decide
theorem rowOf_form (op : Int) : -1 ≤ (rowOf op).form ∧ (rowOf op).form ≤ 9 := by
  unfold rowOf
  split
  · rename_i h
    exact rws_forms ⟨op.toNat, by omega⟩
  · exact ⟨Int.le_refl _, by decide⟩
theorem right_calls (op a b : Int) (g : Nat) (A : Option Addr) (nf c : Nat) (locals code : Int) (ts : List Ty) (w : World) (hT : Tab w g ts) (hl : (partsOf ts a).length * 8 ≤ 140737488355328) :
    Calls Tryd.prog 58 #[inV op a b, scV g A nf c locals code] w fun e w' => e = .returned (.bool (rightR (rowOf op) ts nf locals code a b)) ∧ Below w.heap.size w w' := by
  have hf := rowOf_form op
  obtain ⟨nm, form, kd, tk, lv, vr, hr⟩ : ∃ nm form kd tk lv vr, rowOf op = ⟨nm, form, kd, tk, lv, vr⟩ := ⟨_, _, _, _, _, _, rfl⟩
  rw [hr] at hf ⊢
  obtain ⟨h0, h9⟩ : -1 ≤ form ∧ form ≤ 9 := hf
  by_cases hbad : twoB form = false ∧ b ≠ 0
  · have e : rightR ⟨nm, form, kd, tk, lv, vr⟩ ts nf locals code a b = false := by unfold rightR; rw [if_pos hbad]
    rw [e]
    exact right_bad op a b g A nf c locals code ts w hT nm form kd tk lv vr hr hbad.1 hbad.2
  · unfold rightR
    rw [if_neg hbad]
    dsimp only
    have hz : form ≠ 7 → form ≠ 8 → b = 0 := fun h7 h8 => Classical.byContradiction fun hb => hbad ⟨by simp [twoB, h7, h8], hb⟩
    have hcs : form = -1 ∨ form = 0 ∨ form = 1 ∨ form = 2 ∨ form = 3 ∨ form = 4 ∨ form = 5 ∨ form = 6 ∨ form = 7 ∨ form = 8 ∨ form = 9 := by omega
    rcases hcs with h | h | h | h | h | h | h | h | h | h | h
    · exact (right_none op a b g A nf c locals code ts w hT nm form kd tk lv vr hr h (hz (by omega) (by omega))).mono fun e w' k => ⟨by subst h; exact k.1, k.2⟩
    · exact (right_0 op a b g A nf c locals code ts w hT nm form kd tk lv vr hr h (hz (by omega) (by omega))).mono fun e w' k => ⟨by subst h; exact k.1, k.2⟩
    · exact (right_1 op a b g A nf c locals code ts w hT nm form kd tk lv vr hr h (hz (by omega) (by omega))).mono fun e w' k => ⟨by subst h; exact k.1, k.2⟩
    · exact (right_2 op a b g A nf c locals code ts w hT nm form kd tk lv vr hr h (hz (by omega) (by omega))).mono fun e w' k => ⟨by subst h; exact k.1, k.2⟩
    · exact (right_3 op a b g A nf c locals code ts w hT nm form kd tk lv vr hr h (hz (by omega) (by omega))).mono fun e w' k => ⟨by subst h; exact k.1, k.2⟩
    · exact (right_4 op a b g A nf c locals code ts w hT nm form kd tk lv vr hr h (hz (by omega) (by omega))).mono fun e w' k => ⟨by subst h; exact k.1, k.2⟩
    · exact (right_5 op a b g A nf c locals code ts w hT nm form kd tk lv vr hr h (hz (by omega) (by omega))).mono fun e w' k => ⟨by subst h; exact k.1, k.2⟩
    · exact (right_6 op a b g A nf c locals code ts w hT nm form kd tk lv vr hr h (hz (by omega) (by omega))).mono fun e w' k => ⟨by subst h; exact k.1, k.2⟩
    · cases hk : (kOf ts a == kd) with
      | true => exact (right_7t op a b g A nf c locals code ts w hT nm form kd tk lv vr hr h hk hl).mono fun e w' k => ⟨by subst h; simpa [hk] using k.1, k.2⟩
      | false => exact (right_7f op a b g A nf c locals code ts w hT nm form kd tk lv vr hr h hk hl).mono fun e w' k => ⟨by subst h; simpa [hk] using k.1, k.2⟩
    · cases hk : (kOf ts a == kd) with
      | true => exact (right_8t op a b g A nf c locals code ts w hT nm form kd tk lv vr hr h hk).mono fun e w' k => ⟨by subst h; simpa [hk] using k.1, k.2⟩
      | false => exact (right_8f op a b g A nf c locals code ts w hT nm form kd tk lv vr hr h hk).mono fun e w' k => ⟨by subst h; simpa [hk] using k.1, k.2⟩
    · exact (right_9 op a b g A nf c locals code ts w hT nm form kd tk lv vr hr h (hz (by omega) (by omega))).mono fun e w' k => ⟨by subst h; exact k.1, k.2⟩
end Go.Proofs.YtdilmfnijkjiaaaDoor.K
