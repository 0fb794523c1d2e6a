import Derived.Test.YtdilmfnijkjiaaaDoorK44
import Derived.Deep.RegionHeld3
import Derived.Deep.RegionWith
set_option maxRecDepth 100000
set_option linter.unusedSimpArgs false
set_option linter.unusedVariables false
namespace Go.Proofs.YtdilmfnijkjiaaaDoor.K
open Go.RowKit
theorem heap3' (w : World) (o1 o2 o3 : Obj) : (((w.alloc o1).alloc o2).alloc o3).heap[w.heap.size]? = some o1 ∧ (((w.alloc o1).alloc o2).alloc o3).heap[w.heap.size + 1]? = some o2 ∧ (((w.alloc o1).alloc o2).alloc o3).heap[w.heap.size + 2]? = some o3 := by
  have e2 : ((w.alloc o1).alloc o2).heap.size = w.heap.size + 2 := by simp
  refine ⟨(heap_alloc_old _ o3 (by omega)).trans (heap2 w o1 o2).1, (heap_alloc_old _ o3 (by omega)).trans (heap2 w o1 o2).2, ?_⟩
  have k := heap_alloc_new ((w.alloc o1).alloc o2) o3
  rwa [e2] at k
theorem cells2' {w : World} {b : Nat} {u v : Value} {t : TypeId} (h : w.heap[b]? = some (.cells #[u, v] t (0, 0))) : w.cell? ⟨b, 0, none⟩ = some u ∧ w.cell? ⟨b, 1, none⟩ = some v :=
  ⟨cell_of_row _ _ 0 _ _ _ h, cell_of_row _ _ 1 _ _ _ h⟩
/-- What Join answers. -/
def JoinPost (w : World) (ok : Bool) (r1 r2 : List Int) (e : Ending) (w' : World) : Prop :=
  ∃ A1 k1 A2 k2, e = .returned (.tuple #[.agg #[.slice A1 r1.length k1, .slice A2 r2.length k2], .bool ok]) ∧ IntSl w' A1 k1 r1 ∧ IntSl w' A2 k2 r2 ∧ Below w.heap.size w w'
set_option maxHeartbeats 4000000 in
theorem join_no (LA : Option Addr) (lc : Nat) (ls : List Int) (SA : Option Addr) (sc : Nat) (st : List Int) (LB : Option Addr) (ld : Nat) (ls' : List Int) (SB : Option Addr) (sd : Nat) (st' : List Int) (w : World) (b1 : ls.length ≤ 9223372036854775807) (b2 : ls'.length ≤ 9223372036854775807) (b3 : st.length ≤ 9223372036854775807) (b4 : st'.length ≤ 9223372036854775807) (h : ¬ (ls.length = ls'.length ∧ st.length = st'.length)) :
    Calls Tryd.prog 34 #[.agg #[.slice LA ls.length lc, .slice SA st.length sc], .agg #[.slice LB ls'.length ld, .slice SB st'.length sd]] w (JoinPost w false [] []) := by
  have hb := heap3' w (.cells #[.slice LA ls.length lc, .slice SA st.length sc] 30) (.cells #[.slice LB ls'.length ld, .slice SB st'.length sd] 30) (.cells #[.slice none 0 0, .slice none 0 0] 30)
  have hB0 := below_alloc' (o := .cells #[.slice none 0 0, .slice none 0 0] 30) (below_alloc' (o := .cells #[.slice LB ls'.length ld, .slice SB st'.length sd] 30) (below_alloc' (o := .cells #[.slice LA ls.length lc, .slice SA st.length sc] 30) (below_refl w)))
  obtain ⟨c0, c1⟩ := cells2' hb.1
  obtain ⟨c2, c3⟩ := cells2' hb.2.1
  obtain ⟨c4, c5⟩ := cells2' hb.2.2
  have z4 := frozen_of_row _ _ 0 _ _ hb.2.2
  have z5 := frozen_of_row _ _ 1 _ _ hb.2.2
  have HB0 := Lib.hid hB0
  clear hb hB0
  by_cases h1 : ls.length = ls'.length
  · have h2 : ¬ st.length = st'.length := fun e => h ⟨h1, e⟩
    have h3 : ((st.length : Int) != (st'.length : Int)) = true := bne_iff_ne.2 (by omega)
    have e1 : ((ls.length : Int) != (ls'.length : Int)) = false := by simp [h1]
    clear h h1
    go_enter Tryd.func34, Tryd.ntmps34
    go_wp2_with fail
    exact bodyPost_ret (v := .tuple #[.agg #[.slice none 0 0, .slice none 0 0], .bool false]) (by simp [results, Tryd.results34, go_sem, c4, c5]) rfl ⟨none, 0, none, 0, rfl, ⟨by simp, by omega, fun _ => rfl, (fun ad e => by cases e)⟩, ⟨by simp, by omega, fun _ => rfl, (fun ad e => by cases e)⟩, by first | exact HB0.out | exact below_set' (p := ⟨w.heap.size + 1 + 1, 1, none⟩) (u := .slice none 0 0) (below_set' (p := ⟨w.heap.size + 1 + 1, 0, none⟩) (u := .slice none 0 0) HB0.out (by show w.heap.size ≤ w.heap.size + 1 + 1; omega)) (by show w.heap.size ≤ w.heap.size + 1 + 1; omega)⟩
  · have h3 : ((ls.length : Int) != (ls'.length : Int)) = true := bne_iff_ne.2 (by omega)
    clear h
    go_enter Tryd.func34, Tryd.ntmps34
    go_wp2_with fail
    exact bodyPost_ret (v := .tuple #[.agg #[.slice none 0 0, .slice none 0 0], .bool false]) (by simp [results, Tryd.results34, go_sem, c4, c5]) rfl ⟨none, 0, none, 0, rfl, ⟨by simp, by omega, fun _ => rfl, (fun ad e => by cases e)⟩, ⟨by simp, by omega, fun _ => rfl, (fun ad e => by cases e)⟩, by first | exact HB0.out | exact below_set' (p := ⟨w.heap.size + 1 + 1, 1, none⟩) (u := .slice none 0 0) (below_set' (p := ⟨w.heap.size + 1 + 1, 0, none⟩) (u := .slice none 0 0) HB0.out (by show w.heap.size ≤ w.heap.size + 1 + 1; omega)) (by show w.heap.size ≤ w.heap.size + 1 + 1; omega)⟩
set_option maxHeartbeats 4000000 in
theorem join_yes (LA : Option Addr) (lc : Nat) (ls : List Int) (SA : Option Addr) (sc : Nat) (st : List Int) (LB : Option Addr) (ld : Nat) (ls' : List Int) (SB : Option Addr) (sd : Nat) (st' : List Int) (w : World) (hL : IntSl w LA lc ls) (hS : IntSl w SA sc st) (hL' : IntSl w LB ld ls') (hS' : IntSl w SB sd st') (h1 : ls.length = ls'.length) (h2 : st.length = st'.length) (hm1 : ls.length * 8 ≤ 140737488355328) (hm2 : st.length * 8 ≤ 140737488355328) :
    Calls Tryd.prog 34 #[.agg #[.slice LA ls.length lc, .slice SA st.length sc], .agg #[.slice LB ls'.length ld, .slice SB st'.length sd]] w (JoinPost w true (bothL ls ls') (bothL st st')) := by
  have hb := heap3' w (.cells #[.slice LA ls.length lc, .slice SA st.length sc] 30) (.cells #[.slice LB ls'.length ld, .slice SB st'.length sd] 30) (.cells #[.slice none 0 0, .slice none 0 0] 30)
  have hB0 := below_alloc' (o := .cells #[.slice none 0 0, .slice none 0 0] 30) (below_alloc' (o := .cells #[.slice LB ls'.length ld, .slice SB st'.length sd] 30) (below_alloc' (o := .cells #[.slice LA ls.length lc, .slice SA st.length sc] 30) (below_refl w)))
  have HB0 := Lib.hid hB0
  have HL := Lib.hid hL
  have HS := Lib.hid hS
  have HL' := Lib.hid hL'
  have HS' := Lib.hid hS'
  have hsz : (((w.alloc (.cells #[.slice LA ls.length lc, .slice SA st.length sc] 30)).alloc (.cells #[.slice LB ls'.length ld, .slice SB st'.length sd] 30)).alloc (.cells #[.slice none 0 0, .slice none 0 0] 30)).heap.size = w.heap.size + 3 := by simp
  obtain ⟨c0, c1⟩ := cells2' hb.1
  obtain ⟨c2, c3⟩ := cells2' hb.2.1
  have hb2' : (((w.alloc (.cells #[.slice LA ls.length lc, .slice SA st.length sc] 30)).alloc (.cells #[.slice LB ls'.length ld, .slice SB st'.length sd] 30)).alloc (.cells #[.slice none 0 0, .slice none 0 0] 30)).heap[w.heap.size + 1 + 1]? = some (.cells #[.slice none 0 0, .slice none 0 0] 30 (0, 0)) := hb.2.2
  obtain ⟨c4, c5⟩ := cells2' hb2'
  have z4 := frozen_of_row _ _ 0 _ _ hb2'
  have z5 := frozen_of_row _ _ 1 _ _ hb2'
  clear hb2'
  have HSZ := Lib.hid hsz
  have H1 := Lib.hid h1
  have H2 := Lib.hid h2
  have e1 : ((ls.length : Int) != (ls'.length : Int)) = false := by simp [h1]
  have e2 : ((st.length : Int) != (st'.length : Int)) = false := by simp [h2]
  clear hL hS hL' hS' hb hB0 hsz h1 h2
  go_enter Tryd.func34, Tryd.ntmps34
  go_wp2_with fail
  generalize (((w.alloc (.cells #[.slice LA ls.length lc, .slice SA st.length sc] 30)).alloc (.cells #[.slice LB ls'.length ld, .slice SB st'.length sd] 30)).alloc (.cells #[.slice none 0 0, .slice none 0 0] 30)) = W0 at *
  have c4d : W0.drew.cell? ⟨w.heap.size + 1 + 1, 0, none⟩ = some (.slice none 0 0) := c4
  have c5d : W0.drew.cell? ⟨w.heap.size + 1 + 1, 1, none⟩ = some (.slice none 0 0) := c5
  have z4d : W0.drew.frozen? ⟨w.heap.size + 1 + 1, 0, none⟩ = false := z4
  have z5d : W0.drew.frozen? ⟨w.heap.size + 1 + 1, 1, none⟩ = false := z5
  have HN0 : Hid (w.heap.size + 1 + 1 ≠ w.heap.size) := Lib.hid (by omega)
  have HN1 : Hid (w.heap.size + 1 + 1 ≠ w.heap.size + 1) := Lib.hid (by omega)
  have HLE : Hid (w.heap.size ≤ w.heap.size + 1 + 1) := Lib.hid (by omega)
  have HLT : Hid (w.heap.size + 1 + 1 < W0.drew.heap.size) := Lib.hid (by have := HSZ.out; show w.heap.size + 1 + 1 < W0.heap.size; omega)
  go_region_held3 (fun w' => w'.cell? ⟨w.heap.size, 0, none⟩ = some (.slice LA ls.length lc) ∧ w'.cell? ⟨w.heap.size, 1, none⟩ = some (.slice SA st.length sc) ∧ w'.cell? ⟨w.heap.size + 1, 0, none⟩ = some (.slice LB ls'.length ld) ∧ w'.cell? ⟨w.heap.size + 1, 1, none⟩ = some (.slice SB st'.length sd) ∧ Below w.heap.size w w')
    (first
      | (go_split_ands; exact ⟨by assumption, by assumption, by assumption, by assumption, by assumption⟩)
      | (go_split_ands; exact ⟨by assumption, by assumption, by assumption, by assumption, below_drew' HB0.out⟩)
      | (go_split_ands; exact ⟨cell_below (by assumption) (by assumption), cell_below (by assumption) (by assumption), cell_below (by assumption) (by assumption), cell_below (by assumption) (by assumption), below_then (by assumption) (by assumption)⟩)
      | (go_split_ands; exact ⟨cell_far' (cell_far' (by assumption) HN0.out) HN0.out, cell_far' (cell_far' (by assumption) HN0.out) HN0.out, cell_far' (cell_far' (by assumption) HN1.out) HN1.out, cell_far' (cell_far' (by assumption) HN1.out) HN1.out, below_set' (below_set' (by assumption) HLE.out) HLE.out⟩)
      | (go_keep; done))
    (first
      | (go_at_call 76; go_split_ands; with_reducible refine (both_calls LA lc ls LB ld ls' _ (HL.out.below (by assumption)) (HL'.out.below (by assumption)) H1.out hm1).mono ?_; rintro e w2 ⟨v1, rfl, ho1, hb1⟩; obtain ⟨A1, c1', rfl, hsl1⟩ := ho1.sl; clear hsl1)
      | (go_at_call 76; go_split_ands; with_reducible refine (both_calls SA sc st SB sd st' _ (HS.out.below (by assumption)) (HS'.out.below (by assumption)) H2.out hm2).mono ?_; rintro e w3 ⟨v2, rfl, ho2, hb2⟩; obtain ⟨A2, c2', rfl, hsl2⟩ := ho2.sl; have hbb := below_then hb1 hb2; have g2 := cell_below hbb c4d; have g3 := cell_below hbb c5d; have g4 := (hbb.frozen (p := ⟨w.heap.size + 1 + 1, 0, none⟩) HLT.out).trans z4d; have g6 := (hbb.frozen (p := ⟨w.heap.size + 1 + 1, 1, none⟩) HLT.out).trans z5d; clear hsl2 hbb))
  have hBel := below_set' (p := ⟨w.heap.size + 1 + 1, 1, none⟩) (u := .slice A2 (bothL st st').length c2') (below_set' (p := ⟨w.heap.size + 1 + 1, 0, none⟩) (u := .slice A1 (bothL ls ls').length c1') (below_then (w := w) (W := w2) (by assumption) hb2) HLE.out) HLE.out
  have hz : W0.drew.heap.size = w.heap.size + 3 := HSZ.out
  have hz2 : W0.drew.heap.size ≤ w2.heap.size := hb1.size
  have hbut : But (w.heap.size + 1 + 1) w3 ((w3.setCell ⟨w.heap.size + 1 + 1, 0, none⟩ (.slice A1 (bothL ls ls').length c1')).setCell ⟨w.heap.size + 1 + 1, 1, none⟩ (.slice A2 (bothL st st').length c2')) := ((But.refl (w.heap.size + 1 + 1) w3).set (p := ⟨w.heap.size + 1 + 1, 0, none⟩) (.inl rfl)).set (p := ⟨w.heap.size + 1 + 1, 1, none⟩) (.inl rfl)
  obtain ⟨k1, k2, k3, k4⟩ := own_pair (base := w.heap.size + 3) ho1 hb2 ho2 (by omega) hz2
  have hne : ∀ (v : Value) (xs : List Int), OwnInts w3 (w.heap.size + 3) v xs → (v.ownBlock = none ∨ v.ownBlock ≠ some (w.heap.size + 1 + 1)) := fun v xs h => by
    cases e : v.ownBlock with
    | none => exact .inl rfl
    | some k =>
      refine .inr fun e' => ?_
      have := (h.block k e).1
      injection e' with e'
      omega
  have HF1 := Lib.hid (k1.kept (grown_of_but hbut) (hne _ _ k1)).sl
  have HF2 := Lib.hid (k2.kept (grown_of_but hbut) (hne _ _ k2)).sl
  have HBe := Lib.hid hBel
  have d0 : ((w3.setCell ⟨w.heap.size + 1 + 1, 0, none⟩ (.slice A1 (bothL ls ls').length c1')).setCell ⟨w.heap.size + 1 + 1, 1, none⟩ (.slice A2 (bothL st st').length c2')).cell? ⟨w.heap.size + 1 + 1, 0, none⟩ = some (.slice A1 (bothL ls ls').length c1') := by go_simp
  have d1 : ((w3.setCell ⟨w.heap.size + 1 + 1, 0, none⟩ (.slice A1 (bothL ls ls').length c1')).setCell ⟨w.heap.size + 1 + 1, 1, none⟩ (.slice A2 (bothL st st').length c2')).cell? ⟨w.heap.size + 1 + 1, 1, none⟩ = some (.slice A2 (bothL st st').length c2') := by go_simp
  clear hBel hbut k1 k2 k3 k4 hne ho1 ho2 hb1 hb2
  go_wp2
  refine bodyPost_ret (v := .tuple #[.agg #[.slice A1 (bothL ls ls').length c1', .slice A2 (bothL st st').length c2'], .bool true]) (by simp [results, Tryd.results34, go_sem, d0, d1]) rfl ?_
  obtain ⟨B1, j1, q1, hs1⟩ := HF1.out
  obtain ⟨B2, j2, q2, hs2⟩ := HF2.out
  cases q1
  cases q2
  exact ⟨_, _, _, _, rfl, hs1, hs2, HBe.out⟩
end Go.Proofs.YtdilmfnijkjiaaaDoor.K
