import Derived.Test.YtdilmfnijkjiaaaDoorK18b
import Derived.Deep.RegionHeld3
import Derived.Deep.RegionWith
set_option maxRecDepth 100000
set_option linter.unusedSimpArgs false
set_option linter.unusedVariables false
namespace Go.Proofs.YtdilmfnijkjiaaaDoor.K
open Go.RowKit
/-- take of a literal, with what stays. -/
theorem take_lit2 (base s : Nat) (K : SK) (ns : List Int) (n : Nat) (hn : ns.length = n) (cs : Array Value) (hcs : cs = (nums ns).toArray) (w : World) (ls st : List Int) (err : Int) (h : SInv base s K w ls st err) (hl : n ≤ st.length) (hb : st.length ≤ 17592186044400) (hs : base ≤ s) :
    Calls Tryd.prog 101 #[.pointer (some ⟨s, 0, none⟩), .slice (some ⟨w.heap.size, 0, none⟩) n n] (w.alloc (.cells cs 3)) fun e w' => ∃ A c, e = .returned (.slice A n c) ∧ Did base s K w ls (st.take (st.length - n)) (takeErr err ns (st.drop (st.length - n))) w' ∧ But s w w' := by
  subst hn hcs
  have hsz := h.lt
  refine (take_calls base s K _ _ ns _ ls st err (h.below (below_alloc' (below_refl w))) (lit_sl w s hsz ns (by omega)) hl hb).mono ?_
  rintro e w' ⟨v, rfl, ho, hi, hbut⟩
  obtain ⟨A, c, rfl, hsl⟩ := ho.sl
  have e1 : (w.alloc (.cells (nums ns).toArray 3)).heap.size = w.heap.size + 1 := by simp
  exact ⟨A, c, by congr 2; simp; omega, ⟨hi, (below_mono (below_alloc' (below_refl w)) (by omega)).trans (below_base hbut hs (by rw [e1]; omega))⟩, (But.of_below (below_alloc' (below_refl w))).trans hbut⟩
set_option maxHeartbeats 1000000 in
theorem obj_25 (base s : Nat) (a b : Int) (g : Nat) (FA : Option Addr) (nf fc : Nat) (lo cd res : Int) (LV : Value) (w : World) (ls st : List Int) (h : SInv base s ⟨25, a, b, g, FA, nf, fc, lo, cd, res, LV⟩ w ls st 0) (hs : base ≤ s) (hb : st.length ≤ 17592186044300) (TS : List Ty) (hT : Tab w g TS) (ps : List Int) (hps : partsOf TS a = ps) (hpl : ps.length * 8 ≤ 140737488355328) (ofa : Int) (hof : ofOf TS a = ofa) (hl : 2 ≤ st.length) :
    Calls Tryd.prog 102 #[.pointer (some ⟨s, 0, none⟩)] w (PlainPost base s ⟨25, a, b, g, FA, nf, fc, lo, cd, res, LV⟩ w ls ((st.take (st.length - 2)) ++ [a]) (takeErr 0 [0, ofa] (st.drop (st.length - 2)))) := by
  obtain ⟨SV, h1, _⟩ := h.ex
  have c0 : w.cell? ⟨s, 0, none⟩ = some (.int .i64 25) := cell_of_row w s 0 _ _ _ h1
  have c1 : w.cell? ⟨s, 1, none⟩ = some (.int .i64 a) := cell_of_row w s 1 _ _ _ h1
  have c2 : w.cell? ⟨s, 2, none⟩ = some (.int .i64 b) := cell_of_row w s 2 _ _ _ h1
  have c3 : w.cell? ⟨s, 3, none⟩ = some (.pointer (some ⟨g, 0, none⟩)) := cell_of_row w s 3 _ _ _ h1
  have hlt := h.lt
  have H := Lib.hid h
  have HT := Lib.hid hT
  have HPS := Lib.hid hps
  have HOF := Lib.hid hof
  have HPL := Lib.hid hpl
  clear h h1 hT hps hof hpl
  go_enter Tryd.func102, Tryd.ntmps102
  go_wp2
  go_region_held3 (fun w' => w'.cell? ⟨s, 0, none⟩ = some (.int .i64 25) ∧ w'.cell? ⟨s, 1, none⟩ = some (.int .i64 a) ∧ w'.cell? ⟨s, 2, none⟩ = some (.int .i64 b) ∧ w'.cell? ⟨s, 3, none⟩ = some (.pointer (some ⟨g, 0, none⟩)) ∧ Below w.heap.size w w')
    (first
      | (go_split_ands; exact ⟨by assumption, by assumption, by assumption, by assumption, by assumption⟩)
      | (go_split_ands; exact ⟨by assumption, by assumption, by assumption, by assumption, below_drew' (below_refl _)⟩)
      | (go_split_ands; exact ⟨cell_below (by assumption) (by assumption), cell_below (by assumption) (by assumption), cell_below (by assumption) (by assumption), cell_below (by assumption) (by assumption), below_then (by assumption) (by assumption)⟩))
    (first
      | (go_at_call 32; go_split_ands; refine (of_calls g TS a _ (HT.out.below (by assumption))).mono ?_; rintro e w' ⟨rfl, rfl⟩; rw [HOF.out])
      | (go_at_call 31; go_split_ands; refine (parts_calls g TS a _ (HT.out.below (by assumption)) (by rw [HPS.out]; exact HPL.out)).mono ?_; rintro e w2 ⟨v, rfl, ho, hb⟩; rw [HPS.out] at ho; obtain ⟨A2, c2', rfl, hsl⟩ := ho.sl' s (by rename_i hB; have := Below.size hB; omega); have HSL := Lib.hid hsl; clear ho hsl))
  all_goals
    go_split_ands
    have HBE : Hid (Below w.heap.size w w2) := Lib.hid (by assumption)
    have HD0 := Lib.hid (Did.from H.out hs HBE.out)
    go_wp2_with fail
    refine (take_lit2 base s _ [0, ofa] 2 rfl _ rfl w2 ls st 0 HD0.out.inv (by omega) (by omega) hs).mono ?_
    rintro e w3 ⟨A1, c1', rfl, hd, hbut⟩
    have HD1 := Lib.hid (HD0.out.trans hd)
    have HB := Lib.hid hbut
    clear hd hbut
    go_wp2_with fail
    refine (put_lit base s _ [a] 1 rfl _ rfl w3 ls _ _ HD1.out.inv (by simp; omega) hs).mono ?_
    rintro e w9 ⟨rfl, hd⟩
    have HD2 := Lib.hid (HD1.out.trans hd)
    clear hd
    go_wp2
    exact bodyPost_end (results_none rfl _ _ _) rfl ⟨rfl, HD2.out⟩
set_option maxHeartbeats 1000000 in
theorem obj_26 (base s : Nat) (a b : Int) (g : Nat) (FA : Option Addr) (nf fc : Nat) (lo cd res : Int) (LV : Value) (w : World) (ls st : List Int) (h : SInv base s ⟨26, a, b, g, FA, nf, fc, lo, cd, res, LV⟩ w ls st 0) (hs : base ≤ s) (hb : st.length ≤ 17592186044300) (TS : List Ty) (hT : Tab w g TS) (ps : List Int) (hps : partsOf TS a = ps) (hpl : ps.length * 8 ≤ 140737488355328) (ofa : Int) (hof : ofOf TS a = ofa) (hl : 2 ≤ st.length) :
    Calls Tryd.prog 102 #[.pointer (some ⟨s, 0, none⟩)] w (PlainPost base s ⟨26, a, b, g, FA, nf, fc, lo, cd, res, LV⟩ w ls ((st.take (st.length - 2)) ++ [ofa]) (takeErr 0 [a, 0] (st.drop (st.length - 2)))) := by
  obtain ⟨SV, h1, _⟩ := h.ex
  have c0 : w.cell? ⟨s, 0, none⟩ = some (.int .i64 26) := cell_of_row w s 0 _ _ _ h1
  have c1 : w.cell? ⟨s, 1, none⟩ = some (.int .i64 a) := cell_of_row w s 1 _ _ _ h1
  have c2 : w.cell? ⟨s, 2, none⟩ = some (.int .i64 b) := cell_of_row w s 2 _ _ _ h1
  have c3 : w.cell? ⟨s, 3, none⟩ = some (.pointer (some ⟨g, 0, none⟩)) := cell_of_row w s 3 _ _ _ h1
  have hlt := h.lt
  have H := Lib.hid h
  have HT := Lib.hid hT
  have HPS := Lib.hid hps
  have HOF := Lib.hid hof
  have HPL := Lib.hid hpl
  clear h h1 hT hps hof hpl
  go_enter Tryd.func102, Tryd.ntmps102
  go_wp2
  go_region_held3 (fun w' => w'.cell? ⟨s, 0, none⟩ = some (.int .i64 26) ∧ w'.cell? ⟨s, 1, none⟩ = some (.int .i64 a) ∧ w'.cell? ⟨s, 2, none⟩ = some (.int .i64 b) ∧ w'.cell? ⟨s, 3, none⟩ = some (.pointer (some ⟨g, 0, none⟩)) ∧ Below w.heap.size w w')
    (first
      | (go_split_ands; exact ⟨by assumption, by assumption, by assumption, by assumption, by assumption⟩)
      | (go_split_ands; exact ⟨by assumption, by assumption, by assumption, by assumption, below_drew' (below_refl _)⟩)
      | (go_split_ands; exact ⟨cell_below (by assumption) (by assumption), cell_below (by assumption) (by assumption), cell_below (by assumption) (by assumption), cell_below (by assumption) (by assumption), below_then (by assumption) (by assumption)⟩))
    (first
      | (go_at_call 32; go_split_ands; refine (of_calls g TS a _ (HT.out.below (by assumption))).mono ?_; rintro e w' ⟨rfl, rfl⟩; rw [HOF.out])
      | (go_at_call 31; go_split_ands; refine (parts_calls g TS a _ (HT.out.below (by assumption)) (by rw [HPS.out]; exact HPL.out)).mono ?_; rintro e w2 ⟨v, rfl, ho, hb⟩; rw [HPS.out] at ho; obtain ⟨A2, c2', rfl, hsl⟩ := ho.sl' s (by rename_i hB; have := Below.size hB; omega); have HSL := Lib.hid hsl; clear ho hsl))
  all_goals
    go_split_ands
    have HBE : Hid (Below w.heap.size w w2) := Lib.hid (by assumption)
    have HD0 := Lib.hid (Did.from H.out hs HBE.out)
    go_wp2_with fail
    refine (take_lit2 base s _ [a, 0] 2 rfl _ rfl w2 ls st 0 HD0.out.inv (by omega) (by omega) hs).mono ?_
    rintro e w3 ⟨A1, c1', rfl, hd, hbut⟩
    have HD1 := Lib.hid (HD0.out.trans hd)
    have HB := Lib.hid hbut
    clear hd hbut
    go_wp2_with fail
    refine (put_lit base s _ [ofa] 1 rfl _ rfl w3 ls _ _ HD1.out.inv (by simp; omega) hs).mono ?_
    rintro e w9 ⟨rfl, hd⟩
    have HD2 := Lib.hid (HD1.out.trans hd)
    clear hd
    go_wp2
    exact bodyPost_end (results_none rfl _ _ _) rfl ⟨rfl, HD2.out⟩
set_option maxHeartbeats 1000000 in
theorem obj_27 (base s : Nat) (a b : Int) (g : Nat) (FA : Option Addr) (nf fc : Nat) (lo cd res : Int) (LV : Value) (w : World) (ls st : List Int) (h : SInv base s ⟨27, a, b, g, FA, nf, fc, lo, cd, res, LV⟩ w ls st 0) (hs : base ≤ s) (hb : st.length ≤ 17592186044300) (TS : List Ty) (hT : Tab w g TS) (ps : List Int) (hps : partsOf TS a = ps) (hpl : ps.length * 8 ≤ 140737488355328) (ofa : Int) (hof : ofOf TS a = ofa) (hl : 3 ≤ st.length) :
    Calls Tryd.prog 102 #[.pointer (some ⟨s, 0, none⟩)] w (PlainPost base s ⟨27, a, b, g, FA, nf, fc, lo, cd, res, LV⟩ w ls (st.take (st.length - 3)) (takeErr 0 [a, 0, ofa] (st.drop (st.length - 3)))) := by
  obtain ⟨SV, h1, _⟩ := h.ex
  have c0 : w.cell? ⟨s, 0, none⟩ = some (.int .i64 27) := cell_of_row w s 0 _ _ _ h1
  have c1 : w.cell? ⟨s, 1, none⟩ = some (.int .i64 a) := cell_of_row w s 1 _ _ _ h1
  have c2 : w.cell? ⟨s, 2, none⟩ = some (.int .i64 b) := cell_of_row w s 2 _ _ _ h1
  have c3 : w.cell? ⟨s, 3, none⟩ = some (.pointer (some ⟨g, 0, none⟩)) := cell_of_row w s 3 _ _ _ h1
  have hlt := h.lt
  have H := Lib.hid h
  have HT := Lib.hid hT
  have HPS := Lib.hid hps
  have HOF := Lib.hid hof
  have HPL := Lib.hid hpl
  clear h h1 hT hps hof hpl
  go_enter Tryd.func102, Tryd.ntmps102
  go_wp2
  go_region_held3 (fun w' => w'.cell? ⟨s, 0, none⟩ = some (.int .i64 27) ∧ w'.cell? ⟨s, 1, none⟩ = some (.int .i64 a) ∧ w'.cell? ⟨s, 2, none⟩ = some (.int .i64 b) ∧ w'.cell? ⟨s, 3, none⟩ = some (.pointer (some ⟨g, 0, none⟩)) ∧ Below w.heap.size w w')
    (first
      | (go_split_ands; exact ⟨by assumption, by assumption, by assumption, by assumption, by assumption⟩)
      | (go_split_ands; exact ⟨by assumption, by assumption, by assumption, by assumption, below_drew' (below_refl _)⟩)
      | (go_split_ands; exact ⟨cell_below (by assumption) (by assumption), cell_below (by assumption) (by assumption), cell_below (by assumption) (by assumption), cell_below (by assumption) (by assumption), below_then (by assumption) (by assumption)⟩))
    (first
      | (go_at_call 32; go_split_ands; refine (of_calls g TS a _ (HT.out.below (by assumption))).mono ?_; rintro e w' ⟨rfl, rfl⟩; rw [HOF.out])
      | (go_at_call 31; go_split_ands; refine (parts_calls g TS a _ (HT.out.below (by assumption)) (by rw [HPS.out]; exact HPL.out)).mono ?_; rintro e w2 ⟨v, rfl, ho, hb⟩; rw [HPS.out] at ho; obtain ⟨A2, c2', rfl, hsl⟩ := ho.sl' s (by rename_i hB; have := Below.size hB; omega); have HSL := Lib.hid hsl; clear ho hsl))
  all_goals
    go_split_ands
    have HBE : Hid (Below w.heap.size w w2) := Lib.hid (by assumption)
    have HD0 := Lib.hid (Did.from H.out hs HBE.out)
    go_wp2_with fail
    refine (take_lit2 base s _ [a, 0, ofa] 3 rfl _ rfl w2 ls st 0 HD0.out.inv (by omega) (by omega) hs).mono ?_
    rintro e w3 ⟨A1, c1', rfl, hd, hbut⟩
    have HD1 := Lib.hid (HD0.out.trans hd)
    have HB := Lib.hid hbut
    clear hd hbut
    go_wp2
    exact bodyPost_end (results_none rfl _ _ _) rfl ⟨rfl, HD1.out⟩
set_option maxHeartbeats 1000000 in
theorem obj_28 (base s : Nat) (a b : Int) (g : Nat) (FA : Option Addr) (nf fc : Nat) (lo cd res : Int) (LV : Value) (w : World) (ls st : List Int) (h : SInv base s ⟨28, a, b, g, FA, nf, fc, lo, cd, res, LV⟩ w ls st 0) (hs : base ≤ s) (hb : st.length ≤ 17592186044300) (TS : List Ty) (hT : Tab w g TS) (ps : List Int) (hps : partsOf TS a = ps) (hpl : ps.length * 8 ≤ 140737488355328) (ofa : Int) (hof : ofOf TS a = ofa) (hl : 1 ≤ st.length) :
    Calls Tryd.prog 102 #[.pointer (some ⟨s, 0, none⟩)] w (PlainPost base s ⟨28, a, b, g, FA, nf, fc, lo, cd, res, LV⟩ w ls ((st.take (st.length - 1)) ++ [0]) (takeErr 0 [a] (st.drop (st.length - 1)))) := by
  obtain ⟨SV, h1, _⟩ := h.ex
  have c0 : w.cell? ⟨s, 0, none⟩ = some (.int .i64 28) := cell_of_row w s 0 _ _ _ h1
  have c1 : w.cell? ⟨s, 1, none⟩ = some (.int .i64 a) := cell_of_row w s 1 _ _ _ h1
  have c2 : w.cell? ⟨s, 2, none⟩ = some (.int .i64 b) := cell_of_row w s 2 _ _ _ h1
  have c3 : w.cell? ⟨s, 3, none⟩ = some (.pointer (some ⟨g, 0, none⟩)) := cell_of_row w s 3 _ _ _ h1
  have hlt := h.lt
  have H := Lib.hid h
  have HT := Lib.hid hT
  have HPS := Lib.hid hps
  have HOF := Lib.hid hof
  have HPL := Lib.hid hpl
  clear h h1 hT hps hof hpl
  go_enter Tryd.func102, Tryd.ntmps102
  go_wp2
  go_region_held3 (fun w' => w'.cell? ⟨s, 0, none⟩ = some (.int .i64 28) ∧ w'.cell? ⟨s, 1, none⟩ = some (.int .i64 a) ∧ w'.cell? ⟨s, 2, none⟩ = some (.int .i64 b) ∧ w'.cell? ⟨s, 3, none⟩ = some (.pointer (some ⟨g, 0, none⟩)) ∧ Below w.heap.size w w')
    (first
      | (go_split_ands; exact ⟨by assumption, by assumption, by assumption, by assumption, by assumption⟩)
      | (go_split_ands; exact ⟨by assumption, by assumption, by assumption, by assumption, below_drew' (below_refl _)⟩)
      | (go_split_ands; exact ⟨cell_below (by assumption) (by assumption), cell_below (by assumption) (by assumption), cell_below (by assumption) (by assumption), cell_below (by assumption) (by assumption), below_then (by assumption) (by assumption)⟩))
    (first
      | (go_at_call 32; go_split_ands; refine (of_calls g TS a _ (HT.out.below (by assumption))).mono ?_; rintro e w' ⟨rfl, rfl⟩; rw [HOF.out])
      | (go_at_call 31; go_split_ands; refine (parts_calls g TS a _ (HT.out.below (by assumption)) (by rw [HPS.out]; exact HPL.out)).mono ?_; rintro e w2 ⟨v, rfl, ho, hb⟩; rw [HPS.out] at ho; obtain ⟨A2, c2', rfl, hsl⟩ := ho.sl' s (by rename_i hB; have := Below.size hB; omega); have HSL := Lib.hid hsl; clear ho hsl))
  all_goals
    go_split_ands
    have HBE : Hid (Below w.heap.size w w2) := Lib.hid (by assumption)
    have HD0 := Lib.hid (Did.from H.out hs HBE.out)
    go_wp2_with fail
    refine (take_lit2 base s _ [a] 1 rfl _ rfl w2 ls st 0 HD0.out.inv (by omega) (by omega) hs).mono ?_
    rintro e w3 ⟨A1, c1', rfl, hd, hbut⟩
    have HD1 := Lib.hid (HD0.out.trans hd)
    have HB := Lib.hid hbut
    clear hd hbut
    go_wp2_with fail
    refine (put_lit base s _ [0] 1 rfl _ rfl w3 ls _ _ HD1.out.inv (by simp; omega) hs).mono ?_
    rintro e w9 ⟨rfl, hd⟩
    have HD2 := Lib.hid (HD1.out.trans hd)
    clear hd
    go_wp2
    exact bodyPost_end (results_none rfl _ _ _) rfl ⟨rfl, HD2.out⟩
set_option maxHeartbeats 1000000 in
theorem obj_31 (base s : Nat) (a b : Int) (g : Nat) (FA : Option Addr) (nf fc : Nat) (lo cd res : Int) (LV : Value) (w : World) (ls st : List Int) (h : SInv base s ⟨31, a, b, g, FA, nf, fc, lo, cd, res, LV⟩ w ls st 0) (hs : base ≤ s) (hb : st.length ≤ 17592186044300) (TS : List Ty) (hT : Tab w g TS) (ps : List Int) (hps : partsOf TS a = ps) (hpl : ps.length * 8 ≤ 140737488355328) (ofa : Int) (hof : ofOf TS a = ofa) :
    Calls Tryd.prog 102 #[.pointer (some ⟨s, 0, none⟩)] w (PlainPost base s ⟨31, a, b, g, FA, nf, fc, lo, cd, res, LV⟩ w ls (st ++ [a]) 0) := by
  obtain ⟨SV, h1, _⟩ := h.ex
  have c0 : w.cell? ⟨s, 0, none⟩ = some (.int .i64 31) := cell_of_row w s 0 _ _ _ h1
  have c1 : w.cell? ⟨s, 1, none⟩ = some (.int .i64 a) := cell_of_row w s 1 _ _ _ h1
  have c2 : w.cell? ⟨s, 2, none⟩ = some (.int .i64 b) := cell_of_row w s 2 _ _ _ h1
  have c3 : w.cell? ⟨s, 3, none⟩ = some (.pointer (some ⟨g, 0, none⟩)) := cell_of_row w s 3 _ _ _ h1
  have hlt := h.lt
  have H := Lib.hid h
  have HT := Lib.hid hT
  have HPS := Lib.hid hps
  have HOF := Lib.hid hof
  have HPL := Lib.hid hpl
  clear h h1 hT hps hof hpl
  go_enter Tryd.func102, Tryd.ntmps102
  go_wp2
  go_region_held3 (fun w' => w'.cell? ⟨s, 0, none⟩ = some (.int .i64 31) ∧ w'.cell? ⟨s, 1, none⟩ = some (.int .i64 a) ∧ w'.cell? ⟨s, 2, none⟩ = some (.int .i64 b) ∧ w'.cell? ⟨s, 3, none⟩ = some (.pointer (some ⟨g, 0, none⟩)) ∧ Below w.heap.size w w')
    (first
      | (go_split_ands; exact ⟨by assumption, by assumption, by assumption, by assumption, by assumption⟩)
      | (go_split_ands; exact ⟨by assumption, by assumption, by assumption, by assumption, below_drew' (below_refl _)⟩)
      | (go_split_ands; exact ⟨cell_below (by assumption) (by assumption), cell_below (by assumption) (by assumption), cell_below (by assumption) (by assumption), cell_below (by assumption) (by assumption), below_then (by assumption) (by assumption)⟩))
    (first
      | (go_at_call 32; go_split_ands; refine (of_calls g TS a _ (HT.out.below (by assumption))).mono ?_; rintro e w' ⟨rfl, rfl⟩; rw [HOF.out])
      | (go_at_call 31; go_split_ands; refine (parts_calls g TS a _ (HT.out.below (by assumption)) (by rw [HPS.out]; exact HPL.out)).mono ?_; rintro e w2 ⟨v, rfl, ho, hb⟩; rw [HPS.out] at ho; obtain ⟨A2, c2', rfl, hsl⟩ := ho.sl' s (by rename_i hB; have := Below.size hB; omega); have HSL := Lib.hid hsl; clear ho hsl))
  all_goals
    go_split_ands
    have HBE : Hid (Below w.heap.size w w2) := Lib.hid (by assumption)
    have HD0 := Lib.hid (Did.from H.out hs HBE.out)
    go_wp2_with fail
    refine (put_lit base s _ [a] 1 rfl _ rfl w2 ls _ _ HD0.out.inv (by simp; omega) hs).mono ?_
    rintro e w9 ⟨rfl, hd⟩
    have HD2 := Lib.hid (HD0.out.trans hd)
    clear hd
    go_wp2
    exact bodyPost_end (results_none rfl _ _ _) rfl ⟨rfl, HD2.out⟩
set_option maxHeartbeats 1000000 in
theorem obj_32 (base s : Nat) (a b : Int) (g : Nat) (FA : Option Addr) (nf fc : Nat) (lo cd res : Int) (LV : Value) (w : World) (ls st : List Int) (h : SInv base s ⟨32, a, b, g, FA, nf, fc, lo, cd, res, LV⟩ w ls st 0) (hs : base ≤ s) (hb : st.length ≤ 17592186044300) (TS : List Ty) (hT : Tab w g TS) (ps : List Int) (hps : partsOf TS a = ps) (hpl : ps.length * 8 ≤ 140737488355328) (ofa : Int) (hof : ofOf TS a = ofa) (hl : 1 ≤ st.length) :
    Calls Tryd.prog 102 #[.pointer (some ⟨s, 0, none⟩)] w (PlainPost base s ⟨32, a, b, g, FA, nf, fc, lo, cd, res, LV⟩ w ls ((st.take (st.length - 1)) ++ [a]) (takeErr 0 [ofa] (st.drop (st.length - 1)))) := by
  obtain ⟨SV, h1, _⟩ := h.ex
  have c0 : w.cell? ⟨s, 0, none⟩ = some (.int .i64 32) := cell_of_row w s 0 _ _ _ h1
  have c1 : w.cell? ⟨s, 1, none⟩ = some (.int .i64 a) := cell_of_row w s 1 _ _ _ h1
  have c2 : w.cell? ⟨s, 2, none⟩ = some (.int .i64 b) := cell_of_row w s 2 _ _ _ h1
  have c3 : w.cell? ⟨s, 3, none⟩ = some (.pointer (some ⟨g, 0, none⟩)) := cell_of_row w s 3 _ _ _ h1
  have hlt := h.lt
  have H := Lib.hid h
  have HT := Lib.hid hT
  have HPS := Lib.hid hps
  have HOF := Lib.hid hof
  have HPL := Lib.hid hpl
  clear h h1 hT hps hof hpl
  go_enter Tryd.func102, Tryd.ntmps102
  go_wp2
  go_region_held3 (fun w' => w'.cell? ⟨s, 0, none⟩ = some (.int .i64 32) ∧ w'.cell? ⟨s, 1, none⟩ = some (.int .i64 a) ∧ w'.cell? ⟨s, 2, none⟩ = some (.int .i64 b) ∧ w'.cell? ⟨s, 3, none⟩ = some (.pointer (some ⟨g, 0, none⟩)) ∧ Below w.heap.size w w')
    (first
      | (go_split_ands; exact ⟨by assumption, by assumption, by assumption, by assumption, by assumption⟩)
      | (go_split_ands; exact ⟨by assumption, by assumption, by assumption, by assumption, below_drew' (below_refl _)⟩)
      | (go_split_ands; exact ⟨cell_below (by assumption) (by assumption), cell_below (by assumption) (by assumption), cell_below (by assumption) (by assumption), cell_below (by assumption) (by assumption), below_then (by assumption) (by assumption)⟩))
    (first
      | (go_at_call 32; go_split_ands; refine (of_calls g TS a _ (HT.out.below (by assumption))).mono ?_; rintro e w' ⟨rfl, rfl⟩; rw [HOF.out])
      | (go_at_call 31; go_split_ands; refine (parts_calls g TS a _ (HT.out.below (by assumption)) (by rw [HPS.out]; exact HPL.out)).mono ?_; rintro e w2 ⟨v, rfl, ho, hb⟩; rw [HPS.out] at ho; obtain ⟨A2, c2', rfl, hsl⟩ := ho.sl' s (by rename_i hB; have := Below.size hB; omega); have HSL := Lib.hid hsl; clear ho hsl))
  all_goals
    go_split_ands
    have HBE : Hid (Below w.heap.size w w2) := Lib.hid (by assumption)
    have HD0 := Lib.hid (Did.from H.out hs HBE.out)
    go_wp2_with fail
    refine (take_lit2 base s _ [ofa] 1 rfl _ rfl w2 ls st 0 HD0.out.inv (by omega) (by omega) hs).mono ?_
    rintro e w3 ⟨A1, c1', rfl, hd, hbut⟩
    have HD1 := Lib.hid (HD0.out.trans hd)
    have HB := Lib.hid hbut
    clear hd hbut
    go_wp2_with fail
    refine (put_lit base s _ [a] 1 rfl _ rfl w3 ls _ _ HD1.out.inv (by simp; omega) hs).mono ?_
    rintro e w9 ⟨rfl, hd⟩
    have HD2 := Lib.hid (HD1.out.trans hd)
    clear hd
    go_wp2
    exact bodyPost_end (results_none rfl _ _ _) rfl ⟨rfl, HD2.out⟩
set_option maxHeartbeats 1000000 in
theorem obj_33 (base s : Nat) (a b : Int) (g : Nat) (FA : Option Addr) (nf fc : Nat) (lo cd res : Int) (LV : Value) (w : World) (ls st : List Int) (h : SInv base s ⟨33, a, b, g, FA, nf, fc, lo, cd, res, LV⟩ w ls st 0) (hs : base ≤ s) (hb : st.length ≤ 17592186044300) (TS : List Ty) (hT : Tab w g TS) (ps : List Int) (hps : partsOf TS a = ps) (hpl : ps.length * 8 ≤ 140737488355328) (ofa : Int) (hof : ofOf TS a = ofa) (hl : 1 ≤ st.length) :
    Calls Tryd.prog 102 #[.pointer (some ⟨s, 0, none⟩)] w (PlainPost base s ⟨33, a, b, g, FA, nf, fc, lo, cd, res, LV⟩ w ls ((st.take (st.length - 1)) ++ [1]) (takeErr 0 [a] (st.drop (st.length - 1)))) := by
  obtain ⟨SV, h1, _⟩ := h.ex
  have c0 : w.cell? ⟨s, 0, none⟩ = some (.int .i64 33) := cell_of_row w s 0 _ _ _ h1
  have c1 : w.cell? ⟨s, 1, none⟩ = some (.int .i64 a) := cell_of_row w s 1 _ _ _ h1
  have c2 : w.cell? ⟨s, 2, none⟩ = some (.int .i64 b) := cell_of_row w s 2 _ _ _ h1
  have c3 : w.cell? ⟨s, 3, none⟩ = some (.pointer (some ⟨g, 0, none⟩)) := cell_of_row w s 3 _ _ _ h1
  have hlt := h.lt
  have H := Lib.hid h
  have HT := Lib.hid hT
  have HPS := Lib.hid hps
  have HOF := Lib.hid hof
  have HPL := Lib.hid hpl
  clear h h1 hT hps hof hpl
  go_enter Tryd.func102, Tryd.ntmps102
  go_wp2
  go_region_held3 (fun w' => w'.cell? ⟨s, 0, none⟩ = some (.int .i64 33) ∧ w'.cell? ⟨s, 1, none⟩ = some (.int .i64 a) ∧ w'.cell? ⟨s, 2, none⟩ = some (.int .i64 b) ∧ w'.cell? ⟨s, 3, none⟩ = some (.pointer (some ⟨g, 0, none⟩)) ∧ Below w.heap.size w w')
    (first
      | (go_split_ands; exact ⟨by assumption, by assumption, by assumption, by assumption, by assumption⟩)
      | (go_split_ands; exact ⟨by assumption, by assumption, by assumption, by assumption, below_drew' (below_refl _)⟩)
      | (go_split_ands; exact ⟨cell_below (by assumption) (by assumption), cell_below (by assumption) (by assumption), cell_below (by assumption) (by assumption), cell_below (by assumption) (by assumption), below_then (by assumption) (by assumption)⟩))
    (first
      | (go_at_call 32; go_split_ands; refine (of_calls g TS a _ (HT.out.below (by assumption))).mono ?_; rintro e w' ⟨rfl, rfl⟩; rw [HOF.out])
      | (go_at_call 31; go_split_ands; refine (parts_calls g TS a _ (HT.out.below (by assumption)) (by rw [HPS.out]; exact HPL.out)).mono ?_; rintro e w2 ⟨v, rfl, ho, hb⟩; rw [HPS.out] at ho; obtain ⟨A2, c2', rfl, hsl⟩ := ho.sl' s (by rename_i hB; have := Below.size hB; omega); have HSL := Lib.hid hsl; clear ho hsl))
  all_goals
    go_split_ands
    have HBE : Hid (Below w.heap.size w w2) := Lib.hid (by assumption)
    have HD0 := Lib.hid (Did.from H.out hs HBE.out)
    go_wp2_with fail
    refine (take_lit2 base s _ [a] 1 rfl _ rfl w2 ls st 0 HD0.out.inv (by omega) (by omega) hs).mono ?_
    rintro e w3 ⟨A1, c1', rfl, hd, hbut⟩
    have HD1 := Lib.hid (HD0.out.trans hd)
    have HB := Lib.hid hbut
    clear hd hbut
    go_wp2_with fail
    refine (put_lit base s _ [1] 1 rfl _ rfl w3 ls _ _ HD1.out.inv (by simp; omega) hs).mono ?_
    rintro e w9 ⟨rfl, hd⟩
    have HD2 := Lib.hid (HD1.out.trans hd)
    clear hd
    go_wp2
    exact bodyPost_end (results_none rfl _ _ _) rfl ⟨rfl, HD2.out⟩
set_option maxHeartbeats 1000000 in
theorem obj_34 (base s : Nat) (a b : Int) (g : Nat) (FA : Option Addr) (nf fc : Nat) (lo cd res : Int) (LV : Value) (w : World) (ls st : List Int) (h : SInv base s ⟨34, a, b, g, FA, nf, fc, lo, cd, res, LV⟩ w ls st 0) (hs : base ≤ s) (hb : st.length ≤ 17592186044300) (TS : List Ty) (hT : Tab w g TS) (ps : List Int) (hps : partsOf TS a = ps) (hpl : ps.length * 8 ≤ 140737488355328) (ofa : Int) (hof : ofOf TS a = ofa) (hl : 1 ≤ st.length) :
    Calls Tryd.prog 102 #[.pointer (some ⟨s, 0, none⟩)] w (PlainPost base s ⟨34, a, b, g, FA, nf, fc, lo, cd, res, LV⟩ w ls ((st.take (st.length - 1)) ++ [ofa]) (takeErr 0 [a] (st.drop (st.length - 1)))) := by
  obtain ⟨SV, h1, _⟩ := h.ex
  have c0 : w.cell? ⟨s, 0, none⟩ = some (.int .i64 34) := cell_of_row w s 0 _ _ _ h1
  have c1 : w.cell? ⟨s, 1, none⟩ = some (.int .i64 a) := cell_of_row w s 1 _ _ _ h1
  have c2 : w.cell? ⟨s, 2, none⟩ = some (.int .i64 b) := cell_of_row w s 2 _ _ _ h1
  have c3 : w.cell? ⟨s, 3, none⟩ = some (.pointer (some ⟨g, 0, none⟩)) := cell_of_row w s 3 _ _ _ h1
  have hlt := h.lt
  have H := Lib.hid h
  have HT := Lib.hid hT
  have HPS := Lib.hid hps
  have HOF := Lib.hid hof
  have HPL := Lib.hid hpl
  clear h h1 hT hps hof hpl
  go_enter Tryd.func102, Tryd.ntmps102
  go_wp2
  go_region_held3 (fun w' => w'.cell? ⟨s, 0, none⟩ = some (.int .i64 34) ∧ w'.cell? ⟨s, 1, none⟩ = some (.int .i64 a) ∧ w'.cell? ⟨s, 2, none⟩ = some (.int .i64 b) ∧ w'.cell? ⟨s, 3, none⟩ = some (.pointer (some ⟨g, 0, none⟩)) ∧ Below w.heap.size w w')
    (first
      | (go_split_ands; exact ⟨by assumption, by assumption, by assumption, by assumption, by assumption⟩)
      | (go_split_ands; exact ⟨by assumption, by assumption, by assumption, by assumption, below_drew' (below_refl _)⟩)
      | (go_split_ands; exact ⟨cell_below (by assumption) (by assumption), cell_below (by assumption) (by assumption), cell_below (by assumption) (by assumption), cell_below (by assumption) (by assumption), below_then (by assumption) (by assumption)⟩))
    (first
      | (go_at_call 32; go_split_ands; refine (of_calls g TS a _ (HT.out.below (by assumption))).mono ?_; rintro e w' ⟨rfl, rfl⟩; rw [HOF.out])
      | (go_at_call 31; go_split_ands; refine (parts_calls g TS a _ (HT.out.below (by assumption)) (by rw [HPS.out]; exact HPL.out)).mono ?_; rintro e w2 ⟨v, rfl, ho, hb⟩; rw [HPS.out] at ho; obtain ⟨A2, c2', rfl, hsl⟩ := ho.sl' s (by rename_i hB; have := Below.size hB; omega); have HSL := Lib.hid hsl; clear ho hsl))
  all_goals
    go_split_ands
    have HBE : Hid (Below w.heap.size w w2) := Lib.hid (by assumption)
    have HD0 := Lib.hid (Did.from H.out hs HBE.out)
    go_wp2_with fail
    refine (take_lit2 base s _ [a] 1 rfl _ rfl w2 ls st 0 HD0.out.inv (by omega) (by omega) hs).mono ?_
    rintro e w3 ⟨A1, c1', rfl, hd, hbut⟩
    have HD1 := Lib.hid (HD0.out.trans hd)
    have HB := Lib.hid hbut
    clear hd hbut
    go_wp2_with fail
    refine (put_lit base s _ [ofa] 1 rfl _ rfl w3 ls _ _ HD1.out.inv (by simp; omega) hs).mono ?_
    rintro e w9 ⟨rfl, hd⟩
    have HD2 := Lib.hid (HD1.out.trans hd)
    clear hd
    go_wp2
    exact bodyPost_end (results_none rfl _ _ _) rfl ⟨rfl, HD2.out⟩
set_option maxHeartbeats 1000000 in
theorem obj_23 (base s : Nat) (a b : Int) (g : Nat) (FA : Option Addr) (nf fc : Nat) (lo cd res : Int) (LV : Value) (w : World) (ls st : List Int) (h : SInv base s ⟨23, a, b, g, FA, nf, fc, lo, cd, res, LV⟩ w ls st 0) (hs : base ≤ s) (hb : st.length ≤ 17592186044300) (TS : List Ty) (hT : Tab w g TS) (ps : List Int) (hps : partsOf TS a = ps) (hpl : ps.length * 8 ≤ 140737488355328) (ofa : Int) (hof : ofOf TS a = ofa) (hb0 : 0 ≤ b) (hb1 : b < ps.length) (x : Int) (hx : ps.getD b.toNat 0 = x) (hl : 1 ≤ st.length) :
    Calls Tryd.prog 102 #[.pointer (some ⟨s, 0, none⟩)] w (PlainPost base s ⟨23, a, b, g, FA, nf, fc, lo, cd, res, LV⟩ w ls ((st.take (st.length - 1)) ++ [x]) (takeErr 0 [a] (st.drop (st.length - 1)))) := by
  obtain ⟨SV, h1, _⟩ := h.ex
  have c0 : w.cell? ⟨s, 0, none⟩ = some (.int .i64 23) := cell_of_row w s 0 _ _ _ h1
  have c1 : w.cell? ⟨s, 1, none⟩ = some (.int .i64 a) := cell_of_row w s 1 _ _ _ h1
  have c2 : w.cell? ⟨s, 2, none⟩ = some (.int .i64 b) := cell_of_row w s 2 _ _ _ h1
  have c3 : w.cell? ⟨s, 3, none⟩ = some (.pointer (some ⟨g, 0, none⟩)) := cell_of_row w s 3 _ _ _ h1
  have hlt := h.lt
  have H := Lib.hid h
  have HT := Lib.hid hT
  have HPS := Lib.hid hps
  have HOF := Lib.hid hof
  have HPL := Lib.hid hpl
  clear h h1 hT hps hof hpl
  go_enter Tryd.func102, Tryd.ntmps102
  go_wp2
  go_region_held3 (fun w' => w'.cell? ⟨s, 0, none⟩ = some (.int .i64 23) ∧ w'.cell? ⟨s, 1, none⟩ = some (.int .i64 a) ∧ w'.cell? ⟨s, 2, none⟩ = some (.int .i64 b) ∧ w'.cell? ⟨s, 3, none⟩ = some (.pointer (some ⟨g, 0, none⟩)) ∧ Below w.heap.size w w')
    (first
      | (go_split_ands; exact ⟨by assumption, by assumption, by assumption, by assumption, by assumption⟩)
      | (go_split_ands; exact ⟨by assumption, by assumption, by assumption, by assumption, below_drew' (below_refl _)⟩)
      | (go_split_ands; exact ⟨cell_below (by assumption) (by assumption), cell_below (by assumption) (by assumption), cell_below (by assumption) (by assumption), cell_below (by assumption) (by assumption), below_then (by assumption) (by assumption)⟩))
    (first
      | (go_at_call 32; go_split_ands; refine (of_calls g TS a _ (HT.out.below (by assumption))).mono ?_; rintro e w' ⟨rfl, rfl⟩; rw [HOF.out])
      | (go_at_call 31; go_split_ands; refine (parts_calls g TS a _ (HT.out.below (by assumption)) (by rw [HPS.out]; exact HPL.out)).mono ?_; rintro e w2 ⟨v, rfl, ho, hb⟩; rw [HPS.out] at ho; obtain ⟨A2, c2', rfl, hsl⟩ := ho.sl' s (by rename_i hB; have := Below.size hB; omega); have HSL := Lib.hid hsl; clear ho hsl))
  all_goals
    go_split_ands
    have HBE : Hid (Below w.heap.size w w2) := Lib.hid (by assumption)
    have HD0 := Lib.hid (Did.from H.out hs HBE.out)
    obtain ⟨pad, rfl, hp1⟩ := HSL.out.of_less.getI b hb0 hb1
    rw [hx] at hp1
    go_wp2_with fail
    refine (take_lit2 base s _ [a] 1 rfl _ rfl w2 ls st 0 HD0.out.inv (by omega) (by omega) hs).mono ?_
    rintro e w3 ⟨A1, c1', rfl, hd, hbut⟩
    have HD1 := Lib.hid (HD0.out.trans hd)
    have HB := Lib.hid hbut
    clear hd hbut
    obtain ⟨SV2, q1⟩ := HD1.out.inv.blk
    have d2 : w3.cell? ⟨s, 2, none⟩ = some (.int .i64 b) := cell_of_row _ s 2 _ _ _ q1
    obtain ⟨pad', e9, hp3⟩ := (HSL.out.below HB.out.less).of_less.getI b hb0 hb1
    obtain rfl := Option.some.inj e9
    rw [hx] at hp3
    clear q1 hp1
    go_wp2_with fail
    refine (put_lit base s _ [x] 1 rfl _ rfl w3 ls _ _ HD1.out.inv (by simp; omega) hs).mono ?_
    rintro e w9 ⟨rfl, hd⟩
    have HD2 := Lib.hid (HD1.out.trans hd)
    clear hd
    go_wp2
    exact bodyPost_end (results_none rfl _ _ _) rfl ⟨rfl, HD2.out⟩
set_option maxHeartbeats 1000000 in
theorem obj_24 (base s : Nat) (a b : Int) (g : Nat) (FA : Option Addr) (nf fc : Nat) (lo cd res : Int) (LV : Value) (w : World) (ls st : List Int) (h : SInv base s ⟨24, a, b, g, FA, nf, fc, lo, cd, res, LV⟩ w ls st 0) (hs : base ≤ s) (hb : st.length ≤ 17592186044300) (TS : List Ty) (hT : Tab w g TS) (ps : List Int) (hps : partsOf TS a = ps) (hpl : ps.length * 8 ≤ 140737488355328) (ofa : Int) (hof : ofOf TS a = ofa) (hb0 : 0 ≤ b) (hb1 : b < ps.length) (x : Int) (hx : ps.getD b.toNat 0 = x) (hl : 2 ≤ st.length) :
    Calls Tryd.prog 102 #[.pointer (some ⟨s, 0, none⟩)] w (PlainPost base s ⟨24, a, b, g, FA, nf, fc, lo, cd, res, LV⟩ w ls (st.take (st.length - 2)) (takeErr 0 [a, x] (st.drop (st.length - 2)))) := by
  obtain ⟨SV, h1, _⟩ := h.ex
  have c0 : w.cell? ⟨s, 0, none⟩ = some (.int .i64 24) := cell_of_row w s 0 _ _ _ h1
  have c1 : w.cell? ⟨s, 1, none⟩ = some (.int .i64 a) := cell_of_row w s 1 _ _ _ h1
  have c2 : w.cell? ⟨s, 2, none⟩ = some (.int .i64 b) := cell_of_row w s 2 _ _ _ h1
  have c3 : w.cell? ⟨s, 3, none⟩ = some (.pointer (some ⟨g, 0, none⟩)) := cell_of_row w s 3 _ _ _ h1
  have hlt := h.lt
  have H := Lib.hid h
  have HT := Lib.hid hT
  have HPS := Lib.hid hps
  have HOF := Lib.hid hof
  have HPL := Lib.hid hpl
  clear h h1 hT hps hof hpl
  go_enter Tryd.func102, Tryd.ntmps102
  go_wp2
  go_region_held3 (fun w' => w'.cell? ⟨s, 0, none⟩ = some (.int .i64 24) ∧ w'.cell? ⟨s, 1, none⟩ = some (.int .i64 a) ∧ w'.cell? ⟨s, 2, none⟩ = some (.int .i64 b) ∧ w'.cell? ⟨s, 3, none⟩ = some (.pointer (some ⟨g, 0, none⟩)) ∧ Below w.heap.size w w')
    (first
      | (go_split_ands; exact ⟨by assumption, by assumption, by assumption, by assumption, by assumption⟩)
      | (go_split_ands; exact ⟨by assumption, by assumption, by assumption, by assumption, below_drew' (below_refl _)⟩)
      | (go_split_ands; exact ⟨cell_below (by assumption) (by assumption), cell_below (by assumption) (by assumption), cell_below (by assumption) (by assumption), cell_below (by assumption) (by assumption), below_then (by assumption) (by assumption)⟩))
    (first
      | (go_at_call 32; go_split_ands; refine (of_calls g TS a _ (HT.out.below (by assumption))).mono ?_; rintro e w' ⟨rfl, rfl⟩; rw [HOF.out])
      | (go_at_call 31; go_split_ands; refine (parts_calls g TS a _ (HT.out.below (by assumption)) (by rw [HPS.out]; exact HPL.out)).mono ?_; rintro e w2 ⟨v, rfl, ho, hb⟩; rw [HPS.out] at ho; obtain ⟨A2, c2', rfl, hsl⟩ := ho.sl' s (by rename_i hB; have := Below.size hB; omega); have HSL := Lib.hid hsl; clear ho hsl))
  all_goals
    go_split_ands
    have HBE : Hid (Below w.heap.size w w2) := Lib.hid (by assumption)
    have HD0 := Lib.hid (Did.from H.out hs HBE.out)
    obtain ⟨pad, rfl, hp1⟩ := HSL.out.of_less.getI b hb0 hb1
    rw [hx] at hp1
    go_wp2_with fail
    refine (take_lit2 base s _ [a, x] 2 rfl _ rfl w2 ls st 0 HD0.out.inv (by omega) (by omega) hs).mono ?_
    rintro e w3 ⟨A1, c1', rfl, hd, hbut⟩
    have HD1 := Lib.hid (HD0.out.trans hd)
    have HB := Lib.hid hbut
    clear hd hbut
    go_wp2
    exact bodyPost_end (results_none rfl _ _ _) rfl ⟨rfl, HD1.out⟩
set_option maxHeartbeats 1000000 in
theorem obj_22 (base s : Nat) (a b : Int) (g : Nat) (FA : Option Addr) (nf fc : Nat) (lo cd res : Int) (LV : Value) (w : World) (ls st : List Int) (h : SInv base s ⟨22, a, b, g, FA, nf, fc, lo, cd, res, LV⟩ w ls st 0) (hs : base ≤ s) (hb : st.length ≤ 17592186044300) (TS : List Ty) (hT : Tab w g TS) (ps : List Int) (hps : partsOf TS a = ps) (hpl : ps.length * 8 ≤ 140737488355328) (ofa : Int) (hof : ofOf TS a = ofa) (hl : ps.length ≤ st.length) :
    Calls Tryd.prog 102 #[.pointer (some ⟨s, 0, none⟩)] w (PlainPost base s ⟨22, a, b, g, FA, nf, fc, lo, cd, res, LV⟩ w ls ((st.take (st.length - ps.length)) ++ [a]) (takeErr 0 ps (st.drop (st.length - ps.length)))) := by
  obtain ⟨SV, h1, _⟩ := h.ex
  have c0 : w.cell? ⟨s, 0, none⟩ = some (.int .i64 22) := cell_of_row w s 0 _ _ _ h1
  have c1 : w.cell? ⟨s, 1, none⟩ = some (.int .i64 a) := cell_of_row w s 1 _ _ _ h1
  have c2 : w.cell? ⟨s, 2, none⟩ = some (.int .i64 b) := cell_of_row w s 2 _ _ _ h1
  have c3 : w.cell? ⟨s, 3, none⟩ = some (.pointer (some ⟨g, 0, none⟩)) := cell_of_row w s 3 _ _ _ h1
  have hlt := h.lt
  have H := Lib.hid h
  have HT := Lib.hid hT
  have HPS := Lib.hid hps
  have HOF := Lib.hid hof
  have HPL := Lib.hid hpl
  clear h h1 hT hps hof hpl
  go_enter Tryd.func102, Tryd.ntmps102
  go_wp2
  go_region_held3 (fun w' => w'.cell? ⟨s, 0, none⟩ = some (.int .i64 22) ∧ w'.cell? ⟨s, 1, none⟩ = some (.int .i64 a) ∧ w'.cell? ⟨s, 2, none⟩ = some (.int .i64 b) ∧ w'.cell? ⟨s, 3, none⟩ = some (.pointer (some ⟨g, 0, none⟩)) ∧ Below w.heap.size w w')
    (first
      | (go_split_ands; exact ⟨by assumption, by assumption, by assumption, by assumption, by assumption⟩)
      | (go_split_ands; exact ⟨by assumption, by assumption, by assumption, by assumption, below_drew' (below_refl _)⟩)
      | (go_split_ands; exact ⟨cell_below (by assumption) (by assumption), cell_below (by assumption) (by assumption), cell_below (by assumption) (by assumption), cell_below (by assumption) (by assumption), below_then (by assumption) (by assumption)⟩))
    (first
      | (go_at_call 32; go_split_ands; refine (of_calls g TS a _ (HT.out.below (by assumption))).mono ?_; rintro e w' ⟨rfl, rfl⟩; rw [HOF.out])
      | (go_at_call 31; go_split_ands; refine (parts_calls g TS a _ (HT.out.below (by assumption)) (by rw [HPS.out]; exact HPL.out)).mono ?_; rintro e w2 ⟨v, rfl, ho, hb⟩; rw [HPS.out] at ho; obtain ⟨A2, c2', rfl, hsl⟩ := ho.sl' s (by rename_i hB; have := Below.size hB; omega); have HSL := Lib.hid hsl; clear ho hsl))
  all_goals
    go_split_ands
    have HBE : Hid (Below w.heap.size w w2) := Lib.hid (by assumption)
    have HD0 := Lib.hid (Did.from H.out hs HBE.out)
    go_wp2_with fail
    refine (take_at base s _ ps A2 ps.length c2' rfl w w2 ls st 0 HD0.out.inv HSL.out HD0.out.bel hl (by omega) hs).mono ?_
    rintro e w3 ⟨A1, c1', rfl, ho, hd⟩
    have HD1 := Lib.hid hd
    clear ho hd
    go_wp2_with fail
    refine (put_lit base s _ [a] 1 rfl _ rfl w3 ls _ _ HD1.out.inv (by simp; omega) hs).mono ?_
    rintro e w9 ⟨rfl, hd⟩
    have HD2 := Lib.hid (HD1.out.trans hd)
    clear hd
    go_wp2
    exact bodyPost_end (results_none rfl _ _ _) rfl ⟨rfl, HD2.out⟩
set_option maxHeartbeats 1000000 in
theorem obj_30 (base s : Nat) (a b : Int) (g : Nat) (FA : Option Addr) (nf fc : Nat) (lo cd res : Int) (LV : Value) (w : World) (ls st : List Int) (h : SInv base s ⟨30, a, b, g, FA, nf, fc, lo, cd, res, LV⟩ w ls st 0) (hs : base ≤ s) (hb : st.length ≤ 17592186044300) (TS : List Ty) (hT : Tab w g TS) (ps : List Int) (hps : partsOf TS a = ps) (hpl : ps.length * 8 ≤ 140737488355328) (ofa : Int) (hof : ofOf TS a = ofa) (hl : (ps.length + 1) ≤ st.length) :
    Calls Tryd.prog 102 #[.pointer (some ⟨s, 0, none⟩)] w (PlainPost base s ⟨30, a, b, g, FA, nf, fc, lo, cd, res, LV⟩ w ls ((st.take (st.length - (ps.length + 1))) ++ [ofa]) (takeErr 0 (a :: ps) (st.drop (st.length - (ps.length + 1))))) := by
  obtain ⟨SV, h1, _⟩ := h.ex
  have c0 : w.cell? ⟨s, 0, none⟩ = some (.int .i64 30) := cell_of_row w s 0 _ _ _ h1
  have c1 : w.cell? ⟨s, 1, none⟩ = some (.int .i64 a) := cell_of_row w s 1 _ _ _ h1
  have c2 : w.cell? ⟨s, 2, none⟩ = some (.int .i64 b) := cell_of_row w s 2 _ _ _ h1
  have c3 : w.cell? ⟨s, 3, none⟩ = some (.pointer (some ⟨g, 0, none⟩)) := cell_of_row w s 3 _ _ _ h1
  have hlt := h.lt
  have H := Lib.hid h
  have HT := Lib.hid hT
  have HPS := Lib.hid hps
  have HOF := Lib.hid hof
  have HPL := Lib.hid hpl
  clear h h1 hT hps hof hpl
  go_enter Tryd.func102, Tryd.ntmps102
  go_wp2
  go_region_held3 (fun w' => w'.cell? ⟨s, 0, none⟩ = some (.int .i64 30) ∧ w'.cell? ⟨s, 1, none⟩ = some (.int .i64 a) ∧ w'.cell? ⟨s, 2, none⟩ = some (.int .i64 b) ∧ w'.cell? ⟨s, 3, none⟩ = some (.pointer (some ⟨g, 0, none⟩)) ∧ Below w.heap.size w w')
    (first
      | (go_split_ands; exact ⟨by assumption, by assumption, by assumption, by assumption, by assumption⟩)
      | (go_split_ands; exact ⟨by assumption, by assumption, by assumption, by assumption, below_drew' (below_refl _)⟩)
      | (go_split_ands; exact ⟨cell_below (by assumption) (by assumption), cell_below (by assumption) (by assumption), cell_below (by assumption) (by assumption), cell_below (by assumption) (by assumption), below_then (by assumption) (by assumption)⟩))
    (first
      | (go_at_call 32; go_split_ands; refine (of_calls g TS a _ (HT.out.below (by assumption))).mono ?_; rintro e w' ⟨rfl, rfl⟩; rw [HOF.out])
      | (go_at_call 31; go_split_ands; refine (parts_calls g TS a _ (HT.out.below (by assumption)) (by rw [HPS.out]; exact HPL.out)).mono ?_; rintro e w2 ⟨v, rfl, ho, hb⟩; rw [HPS.out] at ho; obtain ⟨A2, c2', rfl, hsl⟩ := ho.sl' s (by rename_i hB; have := Below.size hB; omega); have HSL := Lib.hid hsl; clear ho hsl))
  all_goals
    go_split_ands
    have HBE : Hid (Below w.heap.size w w2) := Lib.hid (by assumption)
    have HD0 := Lib.hid (Did.from H.out hs HBE.out)
    have hz2 : s < w2.heap.size := HD0.out.inv.lt
    have HO1 : Hid (OwnInts (w2.alloc (.cells #[.int .i64 a] 3)) w2.heap.size (.slice (some ⟨w2.heap.size, 0, none⟩) 1 1) [a]) := Lib.hid (World.ownsRow_lit w2 #[.int .i64 a] 1 (Nat.le_refl _) (by decide) rfl)
    have HY1 := Lib.hid (HSL.out.of_less.below (below_alloc' (o := .cells #[.int .i64 a] 3) (below_refl w2)))
    have hpl := HPL.out
    go_wp2_with (at_builtin; refine app_ints _ rfl _ _ rfl w2.heap.size _ [a] rfl HO1.out A2 c2' ps rfl HY1.out (by simp; omega) (by simp) ?_)
    intro v' w3 hown hgr hat
    have HB3 := Lib.hid (below_of_grown (below_alloc' (o := .cells #[.int .i64 a] 3) (below_refl w2)) hgr (by rintro k hk; cases hk; exact Nat.le_refl _))
    obtain ⟨A3, c3', rfl, hs3⟩ := hown.sl' s hz2
    have HS3 := Lib.hid hs3
    clear hown hgr hat hs3
    go_wp2_with fail
    refine (take_at base s _ (a :: ps) A3 (ps.length + 1) c3' rfl w w3 ls st 0 (HD0.out.inv.below HB3.out) HS3.out (HD0.out.bel.trans (below_mono HB3.out (by omega))) hl (by omega) hs).mono ?_
    rintro e w4 ⟨A1, c1', rfl, ho, hd⟩
    have HD1 := Lib.hid hd
    clear ho hd
    go_wp2_with fail
    refine (put_lit base s _ [ofa] 1 rfl _ rfl w4 ls _ _ HD1.out.inv (by simp; omega) hs).mono ?_
    rintro e w9 ⟨rfl, hd⟩
    have HD2 := Lib.hid (HD1.out.trans hd)
    clear hd
    go_wp2
    exact bodyPost_end (results_none rfl _ _ _) rfl ⟨rfl, HD2.out⟩
end Go.Proofs.YtdilmfnijkjiaaaDoor.K
