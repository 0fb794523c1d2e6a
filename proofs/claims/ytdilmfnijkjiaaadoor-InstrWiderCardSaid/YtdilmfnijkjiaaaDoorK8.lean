import Derived.Test.YtdilmfnijkjiaaaDoorK7
import Derived.Deep.RegionHeld3
set_option maxRecDepth 100000
set_option linter.unusedSimpArgs false
set_option linter.unusedVariables false
namespace Go.Proofs.YtdilmfnijkjiaaaDoor.K
open Go.RowKit
theorem ret2_eq {a b c d : Int} (h1 : a = b) (h2 : c = d) : Ending.returned (.tuple #[.int .i64 a, .int .i64 c]) = Ending.returned (.tuple #[.int .i64 b, .int .i64 d]) := by rw [h1, h2]
set_option maxHeartbeats 400000 in
theorem eff_29 (a b : Int) (g : Nat) (A : Option Addr) (c : Nat) (locals code : Int) (ts : List Ty) (fs : List Fn) (w : World) (hT : Tab w g ts) (hF : FnSl w A c fs) (hl : (partsOf ts a).length * 8 ≤ 140737488355328) (hr : rightR (rowOf 29) ts fs.length locals code a b = true) :
    Calls Tryd.prog 26 #[inV 29 a b, scV g A fs.length c locals code] w fun e w' => e = .returned (.tuple #[.int .i64 (max 0 ((fnAt fs b).params.length - (partsOf ts a).length)), .int .i64 1]) ∧ Below w.heap.size w w' := by
  have HB0 := Lib.hid (below_alloc' (o := .cells #[.pointer (some ⟨g, 0, none⟩), .slice A fs.length c, .int .i64 locals, .int .i64 code] 34) (below_alloc' (o := .cells #[.int .i64 29, .int .i64 a, .int .i64 b] 27) (below_refl w)))
  have HR := Lib.hid (right_calls 29 a b g A fs.length c locals code ts _ (hT.below HB0.out) hl)
  have HT := Lib.hid hT
  have HL := Lib.hid hl
  have hab : 0 ≤ b ∧ b < fs.length := by simp [rightR, rowOf, rws, belowB] at hr; exact hr.2.2
  obtain ⟨h0, h1⟩ := hab
  obtain ⟨ad, A', c', rfl, g0, _, _, hp⟩ := hF.get b h0 h1
  have G0 := Lib.hid g0
  have HP := Lib.hid hp
  clear g0 hp
  rw [hr] at HR
  clear hr hT hl
  go_enter Tryd.func26, Tryd.ntmps26
  go_wp2_with fail
  refine HR.out.mono ?_
  rintro e w1 ⟨rfl, hb⟩
  have HB1 := Lib.hid (below_then HB0.out hb)
  obtain ⟨hc, hf⟩ := bcell hb
  have hz : w.heap.size + 1 < w1.heap.size := by have := hb.size; simp at this; omega
  have hz0 : w.heap.size < w1.heap.size := by omega
  clear hb
  go_wp2_with fail
  refine (of_row 29 _).mono ?_
  rintro e w2 ⟨rfl, hb⟩
  have HB2 := Lib.hid (below_then HB1.out hb)
  obtain ⟨hc2, hf2⟩ := bcell hb
  have hy : w.heap.size + 1 < w2.heap.size := by have := hb.size; omega
  have hy0 : w.heap.size < w2.heap.size := by omega
  clear hb
  have g0' := fun o => cell_below (below_alloc' (o := o) HB2.out) G0.out
  have hs1 : IntKind.i64.wrap (((fnAt fs b).params.length : Int) - ((partsOf ts a).length : Int)) = ((fnAt fs b).params.length : Int) - ((partsOf ts a).length : Int) := IntWalk.i64_in _ (by have := HP.out; have := HL.out; omega)
  have HS := Lib.hid hs1
  clear hs1
  go_wp2
  have c1 : (w2.alloc (.cells #[.string (rowOf 29).name, .int .i64 (rowOf 29).form, .int .i64 (rowOf 29).kind, .int .i64 (rowOf 29).takes, .int .i64 (rowOf 29).leaves, .bool (rowOf 29).varies] 97)).cell? ⟨w.heap.size, 1, none⟩ = some (.int .i64 a) := by simp [go_sem, hc2, hc, hz0, hy0]
  have c2 : (w2.alloc (.cells #[.string (rowOf 29).name, .int .i64 (rowOf 29).form, .int .i64 (rowOf 29).kind, .int .i64 (rowOf 29).takes, .int .i64 (rowOf 29).leaves, .bool (rowOf 29).varies] 97)).cell? ⟨w.heap.size, 2, none⟩ = some (.int .i64 b) := by simp [go_sem, hc2, hc, hz0, hy0]
  have c3 : (w2.alloc (.cells #[.string (rowOf 29).name, .int .i64 (rowOf 29).form, .int .i64 (rowOf 29).kind, .int .i64 (rowOf 29).takes, .int .i64 (rowOf 29).leaves, .bool (rowOf 29).varies] 97)).cell? ⟨w.heap.size + 1, 0, none⟩ = some (.pointer (some ⟨g, 0, none⟩)) := by simp [go_sem, hc2, hc, hz, hy]
  have c4 : (w2.alloc (.cells #[.string (rowOf 29).name, .int .i64 (rowOf 29).form, .int .i64 (rowOf 29).kind, .int .i64 (rowOf 29).takes, .int .i64 (rowOf 29).leaves, .bool (rowOf 29).varies] 97)).cell? ⟨w.heap.size + 1, 1, none⟩ = some (.slice (some ad) fs.length c) := by simp [go_sem, hc2, hc, hz, hy]
  have c5 := g0' (.cells #[.string (rowOf 29).name, .int .i64 (rowOf 29).form, .int .i64 (rowOf 29).kind, .int .i64 (rowOf 29).takes, .int .i64 (rowOf 29).leaves, .bool (rowOf 29).varies] 97)
  have hB := below_alloc' (o := (.cells #[.string (rowOf 29).name, .int .i64 (rowOf 29).form, .int .i64 (rowOf 29).kind, .int .i64 (rowOf 29).takes, .int .i64 (rowOf 29).leaves, .bool (rowOf 29).varies] 97)) HB2.out
  have hh0 : decide (0 ≤ b) = true := decide_eq_true h0
  go_region_held3 (fun w' => w'.cell? ⟨w.heap.size, 1, none⟩ = some (.int .i64 a) ∧ w'.cell? ⟨w.heap.size, 2, none⟩ = some (.int .i64 b) ∧ w'.cell? ⟨w.heap.size + 1, 0, none⟩ = some (.pointer (some ⟨g, 0, none⟩)) ∧ w'.cell? ⟨w.heap.size + 1, 1, none⟩ = some (.slice (some ad) fs.length c) ∧ w'.cell? (ad.add (b.toNat * 4)) = some (.slice A' (fnAt fs b).params.length c') ∧ Below w.heap.size w w')
    (first | (go_split_ands; exact ⟨by assumption, by assumption, by assumption, by assumption, by assumption, by assumption⟩) | (go_split_ands; exact ⟨by assumption, by assumption, by assumption, by assumption, by assumption, below_drew' (by assumption)⟩) | (go_split_ands; exact ⟨cell_below (by assumption) (by assumption), cell_below (by assumption) (by assumption), cell_below (by assumption) (by assumption), cell_below (by assumption) (by assumption), cell_below (by assumption) (by assumption), below_then (by assumption) (by assumption)⟩))
    (first
      | (go_at_call 31; go_split_ands; refine (parts_calls g ts a _ (HT.out.below (by assumption)) HL.out).mono ?_; rintro e w3 ⟨v, rfl, ho, hb⟩; obtain ⟨A2, c2, rfl, hs⟩ := ho.sl; clear ho hs))
  have HZ := HS.out
  go_wp2
  all_goals (go_ret2; exact ⟨ret2_eq (by omega) rfl, below_then (by assumption) (by assumption)⟩)

/-- What Effect answers. -/
def effB (r : Rw) (ts : List Ty) (fs : List Fn) (locals code op a b : Int) : Int × Int :=
  if rightR r ts fs.length locals code a b = true then effR r ts fs op a b else (0, 0)
theorem effect_calls (op a b : Int) (g : Nat) (A : Option Addr) (c : Nat) (locals code : Int) (ts : List Ty) (fs : List Fn) (w : World) (hT : Tab w g ts) (hF : FnSl w A c fs) (hl : (partsOf ts a).length * 8 ≤ 140737488355328) :
    Calls Tryd.prog 26 #[inV op a b, scV g A fs.length c locals code] w fun e w' => e = .returned (.tuple #[.int .i64 (effB (rowOf op) ts fs locals code op a b).1, .int .i64 (effB (rowOf op) ts fs locals code op a b).2]) ∧ Below w.heap.size w w' := by
  cases hr : rightR (rowOf op) ts fs.length locals code a b with
  | false =>
    have e : effB (rowOf op) ts fs locals code op a b = (0, 0) := by unfold effB; rw [hr]; rfl
    rw [e]
    exact eff_no op a b g A fs.length c locals code ts w hT hl hr
  | true =>
    have e : effB (rowOf op) ts fs locals code op a b = effR (rowOf op) ts fs op a b := by unfold effB; rw [if_pos hr]
    rw [e]
    unfold effR
    by_cases h20 : op = 20
    · subst h20; rw [if_pos rfl]; exact eff_20 a b g A c locals code ts fs w hT hF hl hr
    rw [if_neg h20]
    by_cases h22 : op = 22
    · subst h22; rw [if_pos rfl]; exact eff_22 a b g A c locals code ts fs w hT hF hl hr
    rw [if_neg h22]
    by_cases h29 : op = 29
    · subst h29; rw [if_pos rfl]; exact eff_29 a b g A c locals code ts fs w hT hF hl hr
    rw [if_neg h29]
    by_cases h30 : op = 30
    · subst h30; rw [if_pos rfl]; exact eff_30 a b g A c locals code ts fs w hT hF hl hr
    rw [if_neg h30]
    exact eff_any op a b g A c locals code ts fs w hT hF hl hr (beq_eq_false_iff_ne.2 h20) (beq_eq_false_iff_ne.2 h22) (beq_eq_false_iff_ne.2 h29) (beq_eq_false_iff_ne.2 h30)
end Go.Proofs.YtdilmfnijkjiaaaDoor.K
