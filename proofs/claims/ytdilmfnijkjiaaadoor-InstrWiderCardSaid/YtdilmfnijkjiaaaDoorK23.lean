import Derived.Test.YtdilmfnijkjiaaaDoorK16
import Derived.Deep.RegionHeld3
set_option maxRecDepth 100000
set_option linter.unusedSimpArgs false
set_option linter.unusedVariables false
namespace Go.Proofs.YtdilmfnijkjiaaaDoor.K
open Go.RowKit
theorem heap2 (w : World) (o1 o2 : Obj) : ((w.alloc o1).alloc o2).heap[w.heap.size]? = some o1 ∧ ((w.alloc o1).alloc o2).heap[w.heap.size + 1]? = some o2 := by
  have e : (w.alloc o1).heap.size = w.heap.size + 1 := by simp
  refine ⟨(heap_alloc_old _ o2 (by omega)).trans (heap_alloc_new w o1), ?_⟩
  rw [← e]
  exact heap_alloc_new _ o2
theorem cell_far' {w : World} {p a : Addr} {v u : Value} (h : w.cell? a = some u) (hp : p.block ≠ a.block) : (w.setCell p v).cell? a = some u := (World.cell?_setCell_far w p a v hp).trans h
def frV (L S : Value) : Value := .agg #[L, S]
/-- A frame of the call's own. -/
structure OwnFr (w : World) (base : Nat) (V1 V2 : Value) (ls st : List Int) : Prop where
  l : OwnInts w base V1 ls
  s : OwnInts w base V2 st
  ne : V1.ownBlock = none ∨ V1.ownBlock ≠ V2.ownBlock
theorem OwnInts.mono' {w : World} {b b' : Nat} {v : Value} {xs : List Int} (h : OwnInts w b v xs) (hb : b' ≤ b) : OwnInts w b' v xs := by
  obtain ⟨h1, h2⟩ := h
  refine ⟨h1, ?_⟩
  rcases h2 with h2 | ⟨g, cap, cur, hv, hbg, rest⟩
  · exact .inl h2
  · exact .inr ⟨g, cap, cur, hv, by omega, rest⟩
theorem own_pair {base : Nat} {w0 w1 w2 : World} {u v : Value} {xs ys : List Int} (h1 : OwnInts w1 w0.heap.size u xs) (hb : Below w1.heap.size w1 w2) (h2 : OwnInts w2 w1.heap.size v ys) (hs : base ≤ w0.heap.size) (hs2 : w0.heap.size ≤ w1.heap.size) : OwnInts w2 base u xs ∧ OwnInts w2 base v ys ∧ (u.ownBlock = none ∨ u.ownBlock ≠ v.ownBlock) ∧ (v.ownBlock = none ∨ v.ownBlock ≠ u.ownBlock) := by
  have hk : ∀ k k', u.ownBlock = some k → v.ownBlock = some k' → k ≠ k' := fun k k' e e' => by
    have a1 := (h1.block k e).2
    have a2 := (h2.block k' e').1
    omega
  refine ⟨(h1.below hb).mono' hs, h2.mono' (by omega), ?_, ?_⟩
  · cases e : u.ownBlock with
    | none => exact .inl rfl
    | some k =>
      refine .inr fun e' => ?_
      exact hk k k e e'.symm rfl
  · cases e : v.ownBlock with
    | none => exact .inl rfl
    | some k =>
      refine .inr fun e' => ?_
      exact hk k k e'.symm e rfl
set_option maxHeartbeats 1000000 in
theorem copy_calls (LA : Option Addr) (lc : Nat) (ls : List Int) (SA : Option Addr) (sc : Nat) (st : List Int) (w : World) (hL : IntSl w LA lc ls) (hS : IntSl w SA sc st) (hl1 : ls.length * 8 ≤ 140737488355328) (hl2 : st.length * 8 ≤ 140737488355328) :
    Calls Tryd.prog 63 #[frV (.slice LA ls.length lc) (.slice SA st.length sc)] w fun e w' => ∃ V1 V2, e = .returned (frV V1 V2) ∧ OwnFr w' w.heap.size V1 V2 ls st ∧ Below w.heap.size w w' := by
  have HL := Lib.hid hL
  have HS := Lib.hid hS
  clear hL hS
  unfold frV
  have HB0 := Lib.hid (below_alloc' (o := .cells #[.slice none 0 0, .slice none 0 0] 30) (below_alloc' (o := .cells #[.slice LA ls.length lc, .slice SA st.length sc] 30) (below_refl w)))
  go_enter Tryd.func63, Tryd.ntmps63
  go_wp2
  generalize hW0 : ((w.alloc (Obj.cells #[Value.slice LA ls.length lc, Value.slice SA st.length sc] 30)).alloc (Obj.cells #[Value.slice none 0 0, Value.slice none 0 0] 30)) = W0 at *
  have b1 : W0.heap[w.heap.size + 1]? = some (.cells #[.slice none 0 0, .slice none 0 0] 30 (0, 0)) := by rw [← hW0]; exact (heap2 w _ _).2
  have b0 : W0.heap[w.heap.size]? = some (.cells #[.slice LA ls.length lc, .slice SA st.length sc] 30 (0, 0)) := by rw [← hW0]; exact (heap2 w _ _).1
  have e0 : W0.cell? ⟨w.heap.size, 0, none⟩ = some (.slice LA ls.length lc) := cell_of_row _ _ 0 _ _ _ b0
  have e1 : W0.cell? ⟨w.heap.size, 1, none⟩ = some (.slice SA st.length sc) := cell_of_row _ _ 1 _ _ _ b0
  have e2 : W0.cell? ⟨w.heap.size + 1, 0, none⟩ = some (.slice none 0 0) := cell_of_row _ _ 0 _ _ _ b1
  have e3 : W0.cell? ⟨w.heap.size + 1, 1, none⟩ = some (.slice none 0 0) := cell_of_row _ _ 1 _ _ _ b1
  have e4 : W0.frozen? ⟨w.heap.size + 1, 0, none⟩ = false := frozen_of_row _ _ 0 _ _ b1
  have e6 : W0.frozen? ⟨w.heap.size + 1, 1, none⟩ = false := frozen_of_row _ _ 1 _ _ b1
  have e5 : W0.heap.size = w.heap.size + 2 := by rw [← hW0]; simp
  clear hW0 b0 b1
  go_region_held3 (fun w' => w'.cell? ⟨w.heap.size, 0, none⟩ = some (.slice LA ls.length lc) ∧ w'.cell? ⟨w.heap.size, 1, none⟩ = some (.slice SA st.length sc) ∧ Below w.heap.size w w')
    (first
      | (go_split_ands; exact ⟨by assumption, by assumption, by assumption⟩)
      | (go_split_ands; exact ⟨by assumption, by assumption, below_drew' HB0.out⟩)
      | (go_split_ands; exact ⟨cell_below (by assumption) (by assumption), cell_below (by assumption) (by assumption), below_then (by assumption) (by assumption)⟩)
      | (go_split_ands; exact ⟨cell_far' (cell_far' (by assumption) (by simp)) (by simp), cell_far' (cell_far' (by assumption) (by simp)) (by simp), below_set' (below_set' (by assumption) (by simp)) (by simp)⟩))
    (first
      | (go_at_call 69; go_split_ands; refine (clone_calls LA lc ls _ (HL.out.below (by assumption)) hl1).mono ?_; rintro e w2 ⟨v1, rfl, ho1, hb1⟩; obtain ⟨A1, c1', rfl, hsl1⟩ := ho1.sl; clear hsl1)
      | (go_at_call 69; go_split_ands; refine (clone_calls SA sc st _ (HS.out.below (by assumption)) hl2).mono ?_; rintro e w3 ⟨v2, rfl, ho2, hb2⟩; obtain ⟨A2, c2', rfl, hsl2⟩ := ho2.sl; have hbb := below_then (w := W0.drew) (by assumption) hb2; have g2 := cell_below hbb e2; have g3 := cell_below hbb e3; have g4 := (hbb.frozen (p := ⟨w.heap.size + 1, 0, none⟩) (by show w.heap.size + 1 < W0.heap.size; omega)).trans e4; have g6 := (hbb.frozen (p := ⟨w.heap.size + 1, 1, none⟩) (by show w.heap.size + 1 < W0.heap.size; omega)).trans e6; clear hsl2 hbb))
  have hBel := below_set' (p := ⟨w.heap.size + 1, 1, none⟩) (u := .slice A2 st.length c2') (below_set' (p := ⟨w.heap.size + 1, 0, none⟩) (u := .slice A1 ls.length c1') (below_then (w := w) (W := w2) (by assumption) hb2) (by simp)) (by simp)
  have hz : W0.drew.heap.size = w.heap.size + 2 := e5
  have hz2 : W0.drew.heap.size ≤ w2.heap.size := hb1.size
  have hbut : But (w.heap.size + 1) w3 ((w3.setCell ⟨w.heap.size + 1, 0, none⟩ (.slice A1 ls.length c1')).setCell ⟨w.heap.size + 1, 1, none⟩ (.slice A2 st.length c2')) := ((But.refl (w.heap.size + 1) w3).set (p := ⟨w.heap.size + 1, 0, none⟩) (.inl rfl)).set (p := ⟨w.heap.size + 1, 1, none⟩) (.inl rfl)
  obtain ⟨k1, k2, k3, k4⟩ := own_pair (base := w.heap.size + 2) ho1 hb2 ho2 (by omega) hz2
  have hne : ∀ (v : Value) (xs : List Int), OwnInts w3 (w.heap.size + 2) v xs → (v.ownBlock = none ∨ v.ownBlock ≠ some (w.heap.size + 1)) := fun v xs h => by
    cases e : v.ownBlock with
    | none => exact .inl rfl
    | some k =>
      refine .inr fun e' => ?_
      have := (h.block k e).1
      injection e' with e'
      omega
  have HF : Hid (OwnFr ((w3.setCell ⟨w.heap.size + 1, 0, none⟩ (.slice A1 ls.length c1')).setCell ⟨w.heap.size + 1, 1, none⟩ (.slice A2 st.length c2')) w.heap.size (.slice A1 ls.length c1') (.slice A2 st.length c2') ls st) :=
    Lib.hid ⟨(k1.kept (grown_of_but hbut) (hne _ _ k1)).mono' (by omega), (k2.kept (grown_of_but hbut) (hne _ _ k2)).mono' (by omega), k3⟩
  have HBe := Lib.hid hBel
  have d0 : ((w3.setCell ⟨w.heap.size + 1, 0, none⟩ (.slice A1 ls.length c1')).setCell ⟨w.heap.size + 1, 1, none⟩ (.slice A2 st.length c2')).cell? ⟨w.heap.size + 1, 0, none⟩ = some (.slice A1 ls.length c1') := by go_simp
  have d1 : ((w3.setCell ⟨w.heap.size + 1, 0, none⟩ (.slice A1 ls.length c1')).setCell ⟨w.heap.size + 1, 1, none⟩ (.slice A2 st.length c2')).cell? ⟨w.heap.size + 1, 1, none⟩ = some (.slice A2 st.length c2') := by go_simp
  clear hBel hbut k1 k2 k3 k4 hne ho1 ho2 hb1 hb2
  go_wp2
  exact bodyPost_ret (v := .agg #[.slice A1 ls.length c1', .slice A2 st.length c2']) (by simp [results, Tryd.results63, go_sem, d0, d1]) rfl ⟨_, _, rfl, HF.out, HBe.out⟩
end Go.Proofs.YtdilmfnijkjiaaaDoor.K
