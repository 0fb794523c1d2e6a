import Derived.Test.YtdilmfnijkjiaaaDoorK18b
import Derived.Deep.RegionHeld3
import Derived.Deep.RegionWith
set_option maxRecDepth 100000
set_option linter.unusedSimpArgs false
set_option linter.unusedVariables false
namespace Go.Proofs.YtdilmfnijkjiaaaDoor.K
open Go.RowKit
theorem FnSl.get4 {w : World} {A : Option Addr} {c : Nat} {fs : List Fn} (h : FnSl w A c fs) (n : Int) (h0 : 0 ≤ n) (h1 : n < fs.length) :
    ∃ ad A' c' B m d, A = some ad ∧ w.cell? (ad.add (n.toNat * 4)) = some (.slice A' (fnAt fs n).params.length c') ∧ w.cell? ⟨(ad.add (n.toNat * 4)).block, (ad.add (n.toNat * 4)).off + 1, none⟩ = some (.int .i64 (fnAt fs n).result) ∧
      w.cell? ⟨(ad.add (n.toNat * 4)).block, (ad.add (n.toNat * 4)).off + 2, none⟩ = some (.int .i64 (fnAt fs n).locals) ∧ w.cell? ⟨(ad.add (n.toNat * 4)).block, (ad.add (n.toNat * 4)).off + 3, none⟩ = some (.slice B m d) ∧
      IntSl w A' c' (fnAt fs n).params ∧ (fnAt fs n).params.length * 8 ≤ 140737488351232 := by
  obtain ⟨hl, hc, hn, ha⟩ := h
  cases A with
  | none => have := hn rfl; omega
  | some ad =>
    have hi : n.toNat < fs.length := by omega
    have e : fs[n.toNat]? = some (fnAt fs n) := by unfold fnAt; rw [List.getD_eq_getElem?_getD, List.getElem?_eq_getElem hi]; rfl
    obtain ⟨A', c', B, m, d, g0, g1, g2, g3, g4, g5⟩ := ha ad rfl _ _ e
    rw [add_field _ _ _ (by omega)] at g1 g2 g3
    exact ⟨ad, A', c', B, m, d, rfl, g0, g1, g2, g3, g4, g5⟩
theorem below_set4 {w W : World} {k : Nat} {a b c d : Value} (h : Below w.heap.size w W) (hp : w.heap.size ≤ k) : Below w.heap.size w ((((W.setCell ⟨k, 0, none⟩ a).setCell ⟨k, 1, none⟩ b).setCell ⟨k, 2, none⟩ c).setCell ⟨k, 3, none⟩ d) := below_set' (below_set' (below_set' (below_set' h hp) hp) hp) hp
theorem IntSl.take {w : World} {A : Option Addr} {c : Nat} {xs : List Int} (h : IntSl w A c xs) (n : Nat) : IntSl w A c (xs.take n) :=
  ⟨by rw [List.length_take]; exact Nat.le_trans (Nat.min_le_right _ _) h.1, h.2.1, h.2.2.1, fun ad e j x hj => h.2.2.2 ad e j x (by rw [List.getElem?_take] at hj; split at hj <;> simp_all)⟩
theorem own_less {w W : World} {base nb s n c : Nat} {A : Option Addr} {xs : List Int} (h : OwnInts w base (.slice A n c) xs) (hb : But nb w W) (hnb : nb < base) (hs : s < base) : IntSl (K.less W s) A c xs := by
  have h2 := h.kept (grown_of_but hb) (by
    cases e : (Value.slice A n c).ownBlock with
    | none => exact .inl rfl
    | some k =>
      refine .inr fun e' => ?_
      have := (h.block k e).1
      injection e' with e'
      omega)
  obtain ⟨A', c', e, k⟩ := h2.sl' s hs
  cases e
  exact k
theorem but_set4 {w : World} {k : Nat} {a b c d : Value} : But k w ((((w.setCell ⟨k, 0, none⟩ a).setCell ⟨k, 1, none⟩ b).setCell ⟨k, 2, none⟩ c).setCell ⟨k, 3, none⟩ d) :=
  ((((But.refl k w).set (p := ⟨k, 0, none⟩) (.inl rfl)).set (p := ⟨k, 1, none⟩) (.inl rfl)).set (p := ⟨k, 2, none⟩) (.inl rfl)).set (p := ⟨k, 3, none⟩) (.inl rfl)
theorem wrap_small (e : Int) (h0 : -9223372036854775808 ≤ e) (h1 : e ≤ 9223372036854775807) : IntKind.i64.wrap e = e := by
  rw [IntKind.wrap_i64]; omega
theorem But.cell {s : Nat} {w w' : World} (h : But s w w') {a : Addr} {v : Value} (hc : w.cell? a = some v) (hne : a.block ≠ s) : w'.cell? a = some v := by
  rw [World.cell?_of_block (w := w) (h.block _ (World.block_lt_of_cell? w a hc) hne)]
  exact hc
set_option maxHeartbeats 2000000 in
theorem fits_neg (base s : Nat) (a b : Int) (g : Nat) (FA : Option Addr) (nf fc : Nat) (lo cd res : Int) (LV : Value) (w : World) (ls st : List Int) (h : SInv base s ⟨29, a, b, g, FA, nf, fc, lo, cd, res, LV⟩ w ls st 0) (hs : base ≤ s) (hb : st.length ≤ 17592186044300) (TS : List Ty) (hT : Tab w g TS) (ps : List Int) (hps : partsOf TS a = ps) (hpl : ps.length * 8 ≤ 140737488355328) (ofa : Int) (hof : ofOf TS a = ofa) (fs : List Fn) (hnf : nf = fs.length) (hF : FnSl (less w s) FA fc fs) (hb0 : 0 ≤ b) (hb1 : b < fs.length) (prm : List Int) (rst loc : Int) (cod : List Ins) (hfn : fnAt fs b = ⟨prm, rst, loc, cod⟩) (hn : prm.length < ps.length) :
    Calls Tryd.prog 123 #[.pointer (some ⟨s, 0, none⟩)] w (PlainPost base s ⟨29, a, b, g, FA, nf, fc, lo, cd, res, LV⟩ w ls (st.take (st.length - 0) ++ [a]) (takeErr 17 (prm.take 0) (st.drop (st.length - 0)))) := by
  obtain ⟨SV, h1, _⟩ := h.ex
  have c1 : w.cell? ⟨s, 1, none⟩ = some (.int .i64 a) := cell_of_row w s 1 _ _ _ h1
  have c2 : w.cell? ⟨s, 2, none⟩ = some (.int .i64 b) := cell_of_row w s 2 _ _ _ h1
  have c3 : w.cell? ⟨s, 3, none⟩ = some (.pointer (some ⟨g, 0, none⟩)) := cell_of_row w s 3 _ _ _ h1
  subst hnf
  have c4 : w.cell? ⟨s, 4, none⟩ = some (.slice FA fs.length fc) := cell_of_row w s 4 _ _ _ h1
  have hlt := h.lt
  obtain ⟨fad, PA, pc, CA, cm, cc, rfl, p0, p1, p2, p3, p4, p5⟩ := hF.get4 b hb0 hb1
  rw [hfn] at p0 p1 p2 p4 p5
  dsimp only at p0 p1 p2 p4 p5
  have q0 := (less_cell p0).2
  have q1 := (less_cell p1).2
  have q2 := (less_cell p2).2
  have q3 := (less_cell p3).2
  have hfb : (fad.add (b.toNat * 4)).block ≠ s := (less_cell p0).1
  clear p0 p1 p2 p3 hF hfn
  have H := Lib.hid h
  have HT := Lib.hid hT
  have HPS := Lib.hid hps
  have HOF := Lib.hid hof
  have HPL := Lib.hid hpl
  have HP4 := Lib.hid p4
  clear h h1 hT hps hof hpl p4
  have HKS : Hid (∀ w', Below w.heap.size w w' → (w'.cell? ⟨s, 1, none⟩ = some (.int .i64 a) ∧ w'.cell? ⟨s, 2, none⟩ = some (.int .i64 b) ∧ w'.cell? ⟨s, 3, none⟩ = some (.pointer (some ⟨g, 0, none⟩)) ∧ w'.cell? ⟨s, 4, none⟩ = some (.slice (some fad) fs.length fc) ∧ w'.cell? (fad.add (b.toNat * 4)) = some (.slice PA prm.length pc) ∧ w'.cell? ⟨(fad.add (b.toNat * 4)).block, (fad.add (b.toNat * 4)).off + 1, none⟩ = some (.int .i64 rst) ∧ w'.cell? ⟨(fad.add (b.toNat * 4)).block, (fad.add (b.toNat * 4)).off + 2, none⟩ = some (.int .i64 loc) ∧ w'.cell? ⟨(fad.add (b.toNat * 4)).block, (fad.add (b.toNat * 4)).off + 3, none⟩ = some (.slice CA cm cc) ∧ Below w.heap.size w w')) := Lib.hid fun w' hB => ⟨cell_below hB c1, cell_below hB c2, cell_below hB c3, cell_below hB c4, cell_below hB q0, cell_below hB q1, cell_below hB q2, cell_below hB q3, hB⟩
  obtain ⟨en, hen⟩ : ∃ en : Int, (prm.length : Int) - (ps.length : Int) = en := ⟨_, rfl⟩
  have hen0 : en < 0 := by omega
  have hpl := HPL.out
  have henw : IntKind.i64.wrap en = en := wrap_small en (by omega) (by omega)
  go_enter Tryd.func123, Tryd.ntmps123
  go_wp2
  go_region_held3 (fun w' => w'.cell? ⟨s, 1, none⟩ = some (.int .i64 a) ∧ w'.cell? ⟨s, 2, none⟩ = some (.int .i64 b) ∧ w'.cell? ⟨s, 3, none⟩ = some (.pointer (some ⟨g, 0, none⟩)) ∧ w'.cell? ⟨s, 4, none⟩ = some (.slice (some fad) fs.length fc) ∧ w'.cell? (fad.add (b.toNat * 4)) = some (.slice PA prm.length pc) ∧ w'.cell? ⟨(fad.add (b.toNat * 4)).block, (fad.add (b.toNat * 4)).off + 1, none⟩ = some (.int .i64 rst) ∧ w'.cell? ⟨(fad.add (b.toNat * 4)).block, (fad.add (b.toNat * 4)).off + 2, none⟩ = some (.int .i64 loc) ∧ w'.cell? ⟨(fad.add (b.toNat * 4)).block, (fad.add (b.toNat * 4)).off + 3, none⟩ = some (.slice CA cm cc) ∧ Below w.heap.size w w')
    ((refine HKS.out _ ?_; first | assumption | exact below_drew' (below_refl _) | (go_split_ands; first | assumption | exact below_then (by assumption) (by assumption) | exact below_alloc' (by assumption) | exact below_alloc' (below_drew' (below_refl _)) | exact below_alloc' (below_then (below_drew' (below_refl _)) (by assumption)) | exact below_set4 (by assumption) (by first | exact Nat.le_refl _ | exact Below.size (by assumption)))))
    (first
      | (go_at_call 31; go_split_ands; refine (parts_calls g TS a _ (HT.out.below (by assumption)) (by rw [HPS.out]; exact HPL.out)).mono ?_; rintro e w2 ⟨v, rfl, ho, hb⟩; rw [HPS.out] at ho; obtain ⟨A2, c2', rfl, hsl⟩ := ho.sl' s (by rename_i hB; have := Below.size hB; omega); have HSL := Lib.hid hsl; have HOW := Lib.hid ho; obtain ⟨hcc, hff⟩ := bcell hb; clear ho hsl))
  · go_split_ands
    have HBE := Lib.hid (below_alloc' (o := .cells #[.slice PA prm.length pc, .int .i64 rst, .int .i64 loc, .slice CA cm cc] 83) (below_then (below_drew' (below_refl w)) hb))
    have HSL2 := Lib.hid (HSL.out.below (But.of_below (g := s) (below_alloc' (o := .cells #[.slice PA prm.length pc, .int .i64 rst, .int .i64 loc, .slice CA cm cc] 83) (below_refl w2))).less)
    have hB : (w2.alloc (.cells #[.slice PA prm.length pc, .int .i64 rst, .int .i64 loc, .slice CA cm cc] 83)).heap[w2.heap.size]? = some (.cells #[.slice PA prm.length pc, .int .i64 rst, .int .i64 loc, .slice CA cm cc] 83) := heap_alloc_new _ _
    have hnbs : w2.heap.size ≠ s := by have := hb.size; have : w.heap.size ≤ w2.heap.size := this; omega
    have HD0 := Lib.hid (Did.from H.out hs HBE.out)
    obtain ⟨d1, d2, d3, d4, _⟩ := HKS.out _ HBE.out
    generalize hW : w2.alloc (.cells #[.slice PA prm.length pc, .int .i64 rst, .int .i64 loc, .slice CA cm cc] 83) = W at *
    generalize hN : w2.heap.size = nb at *
    have F0 : W.cell? ⟨nb, 0, none⟩ = some (.slice PA prm.length pc) := cell_of_row _ _ 0 _ _ _ hB
    have F1 : W.cell? ⟨nb, 1, none⟩ = some (.int .i64 rst) := cell_of_row _ _ 1 _ _ _ hB
    clear hW hN hB hb
    go_wp2
    go_quiet (fail)
    go_wp2_with fail
    refine (fail_calls base s _ 17 _ _ _ _ (HD0.out.inv.below (below_drewN' (below_refl _)))).mono ?_
    rintro e w3 ⟨rfl, hi, hbut⟩
    have HD1 : Hid (Did base s ⟨29, a, b, g, some fad, fs.length, fc, lo, cd, res, LV⟩ w ls st 17 w3) := Lib.hid ⟨hi, HD0.out.bel.trans ((below_mono (below_drewN' (below_refl _)) (by have := HD0.out.inv.lt; omega)).trans (below_base hbut hs (by have := HD0.out.inv.lt; simp; omega)))⟩
    have F3 : w3.cell? ⟨nb, 0, none⟩ = some (.slice PA prm.length pc) := hbut.cell (cell_below (below_drewN' (below_refl _)) F0) hnbs
    have HP5 : Hid (IntSl (K.less w3 s) PA pc prm) := Lib.hid (HP4.out.below (((But.of_below (g := s) HBE.out).drewN).trans hbut).less)
    obtain ⟨SV2, k1⟩ := HD1.out.inv.blk
    have e1 : w3.cell? ⟨s, 1, none⟩ = some (.int .i64 a) := cell_of_row _ s 1 _ _ _ k1
    clear hi hbut k1
    have hrun : ∀ w : World, (Instr.slice 28 (.slice PA prm.length pc) none (some (.int .i64 0)) none).run Tryd.prog w = .ok (.slice PA 0 pc) w := fun w => take_run PA prm.length pc 0 (by have := HP5.out.1; omega) w
    go_wp2_with fail
    refine (take_at base s _ (prm.take 0) PA 0 pc (by rw [List.length_take]; omega) w w3 ls st 17 HD1.out.inv (HP5.out.take 0) HD1.out.bel (by omega) (by omega) hs).mono ?_
    rintro e w4 ⟨A4, c4', rfl, ho, hd⟩
    have HD2 := Lib.hid hd
    obtain ⟨SV3, k2⟩ := HD2.out.inv.blk
    have g1 : w4.cell? ⟨s, 1, none⟩ = some (.int .i64 a) := cell_of_row _ s 1 _ _ _ k2
    clear ho hd k2
    go_wp2_with fail
    refine (put_lit base s _ [a] 1 rfl _ rfl w4 ls _ _ HD2.out.inv (by simp; omega) hs).mono ?_
    rintro e w9 ⟨rfl, hd⟩
    have HD3 := Lib.hid (HD2.out.trans hd)
    clear hd
    go_wp2
    exact bodyPost_end (results_none rfl _ _ _) rfl ⟨rfl, HD3.out⟩
  · go_split_ands
    have hbz := below_then (below_drew' (below_alloc' (o := .cells #[.slice none 0 0, .int .i64 0, .int .i64 0, .slice none 0 0] 83) (below_refl w))) hb
    have HBE := Lib.hid (below_set4 (a := .slice PA prm.length pc) (b := .int .i64 rst) (c := .int .i64 loc) (d := .slice CA cm cc) hbz (Nat.le_refl _))
    have hnbs : w.heap.size ≠ s := by omega
    have hbb : w2.heap[w.heap.size]? = some (.cells #[.slice none 0 0, .int .i64 0, .int .i64 0, .slice none 0 0] 83) := (hb.block _ (by simp)).trans (heap_alloc_new _ _)
    have HSL2 : Hid (IntSl (K.less ((((w2.setCell ⟨w.heap.size, 0, none⟩ (.slice PA prm.length pc)).setCell ⟨w.heap.size, 1, none⟩ (.int .i64 rst)).setCell ⟨w.heap.size, 2, none⟩ (.int .i64 loc)).setCell ⟨w.heap.size, 3, none⟩ (.slice CA cm cc)) s) A2 c2' ps) := Lib.hid (own_less HOW.out but_set4 (by simp) (by simp; omega))
    have hB : ((((w2.setCell ⟨w.heap.size, 0, none⟩ (.slice PA prm.length pc)).setCell ⟨w.heap.size, 1, none⟩ (.int .i64 rst)).setCell ⟨w.heap.size, 2, none⟩ (.int .i64 loc)).setCell ⟨w.heap.size, 3, none⟩ (.slice CA cm cc)).heap[w.heap.size]? = some (.cells #[.slice PA prm.length pc, .int .i64 rst, .int .i64 loc, .slice CA cm cc] 83) := heap_setCell_same _ _ 3 _ _ _ (heap_setCell_same _ _ 2 _ _ _ (heap_setCell_same _ _ 1 _ _ _ (heap_setCell_same _ _ 0 _ _ _ hbb)))
    have HD0 := Lib.hid (Did.from H.out hs HBE.out)
    obtain ⟨d1, d2, d3, d4, _⟩ := HKS.out _ HBE.out
    generalize hW : ((((w2.setCell ⟨w.heap.size, 0, none⟩ (.slice PA prm.length pc)).setCell ⟨w.heap.size, 1, none⟩ (.int .i64 rst)).setCell ⟨w.heap.size, 2, none⟩ (.int .i64 loc)).setCell ⟨w.heap.size, 3, none⟩ (.slice CA cm cc)) = W at *
    obtain ⟨nb, hN⟩ : ∃ nb, w.heap.size = nb := ⟨_, rfl⟩
    rw [hN] at hB hnbs ⊢
    have F0 : W.cell? ⟨nb, 0, none⟩ = some (.slice PA prm.length pc) := cell_of_row _ _ 0 _ _ _ hB
    have F1 : W.cell? ⟨nb, 1, none⟩ = some (.int .i64 rst) := cell_of_row _ _ 1 _ _ _ hB
    clear hW hN hB hb
    go_wp2
    go_quiet (fail)
    go_wp2_with fail
    refine (fail_calls base s _ 17 _ _ _ _ (HD0.out.inv.below (below_drewN' (below_refl _)))).mono ?_
    rintro e w3 ⟨rfl, hi, hbut⟩
    have HD1 : Hid (Did base s ⟨29, a, b, g, some fad, fs.length, fc, lo, cd, res, LV⟩ w ls st 17 w3) := Lib.hid ⟨hi, HD0.out.bel.trans ((below_mono (below_drewN' (below_refl _)) (by have := HD0.out.inv.lt; omega)).trans (below_base hbut hs (by have := HD0.out.inv.lt; simp; omega)))⟩
    have F3 : w3.cell? ⟨nb, 0, none⟩ = some (.slice PA prm.length pc) := hbut.cell (cell_below (below_drewN' (below_refl _)) F0) hnbs
    have HP5 : Hid (IntSl (K.less w3 s) PA pc prm) := Lib.hid (HP4.out.below (((But.of_below (g := s) HBE.out).drewN).trans hbut).less)
    obtain ⟨SV2, k1⟩ := HD1.out.inv.blk
    have e1 : w3.cell? ⟨s, 1, none⟩ = some (.int .i64 a) := cell_of_row _ s 1 _ _ _ k1
    clear hi hbut k1
    have hrun : ∀ w : World, (Instr.slice 28 (.slice PA prm.length pc) none (some (.int .i64 0)) none).run Tryd.prog w = .ok (.slice PA 0 pc) w := fun w => take_run PA prm.length pc 0 (by have := HP5.out.1; omega) w
    go_wp2_with fail
    refine (take_at base s _ (prm.take 0) PA 0 pc (by rw [List.length_take]; omega) w w3 ls st 17 HD1.out.inv (HP5.out.take 0) HD1.out.bel (by omega) (by omega) hs).mono ?_
    rintro e w4 ⟨A4, c4', rfl, ho, hd⟩
    have HD2 := Lib.hid hd
    obtain ⟨SV3, k2⟩ := HD2.out.inv.blk
    have g1 : w4.cell? ⟨s, 1, none⟩ = some (.int .i64 a) := cell_of_row _ s 1 _ _ _ k2
    clear ho hd k2
    go_wp2_with fail
    refine (put_lit base s _ [a] 1 rfl _ rfl w4 ls _ _ HD2.out.inv (by simp; omega) hs).mono ?_
    rintro e w9 ⟨rfl, hd⟩
    have HD3 := Lib.hid (HD2.out.trans hd)
    clear hd
    go_wp2
    exact bodyPost_end (results_none rfl _ _ _) rfl ⟨rfl, HD3.out⟩
set_option maxHeartbeats 2000000 in
theorem fits_res (base s : Nat) (a b : Int) (g : Nat) (FA : Option Addr) (nf fc : Nat) (lo cd res : Int) (LV : Value) (w : World) (ls st : List Int) (h : SInv base s ⟨29, a, b, g, FA, nf, fc, lo, cd, res, LV⟩ w ls st 0) (hs : base ≤ s) (hb : st.length ≤ 17592186044300) (TS : List Ty) (hT : Tab w g TS) (ps : List Int) (hps : partsOf TS a = ps) (hpl : ps.length * 8 ≤ 140737488355328) (ofa : Int) (hof : ofOf TS a = ofa) (fs : List Fn) (hnf : nf = fs.length) (hF : FnSl (less w s) FA fc fs) (hb0 : 0 ≤ b) (hb1 : b < fs.length) (prm : List Int) (rst loc : Int) (cod : List Ins) (hfn : fnAt fs b = ⟨prm, rst, loc, cod⟩) (d : Nat) (hd : prm.length = d + ps.length) (hl : d ≤ st.length) (hro : rst ≠ ofa) :
    Calls Tryd.prog 123 #[.pointer (some ⟨s, 0, none⟩)] w (PlainPost base s ⟨29, a, b, g, FA, nf, fc, lo, cd, res, LV⟩ w ls (st.take (st.length - d) ++ [a]) (takeErr 17 (prm.take d) (st.drop (st.length - d)))) := by
  obtain ⟨SV, h1, _⟩ := h.ex
  have c1 : w.cell? ⟨s, 1, none⟩ = some (.int .i64 a) := cell_of_row w s 1 _ _ _ h1
  have c2 : w.cell? ⟨s, 2, none⟩ = some (.int .i64 b) := cell_of_row w s 2 _ _ _ h1
  have c3 : w.cell? ⟨s, 3, none⟩ = some (.pointer (some ⟨g, 0, none⟩)) := cell_of_row w s 3 _ _ _ h1
  subst hnf
  have c4 : w.cell? ⟨s, 4, none⟩ = some (.slice FA fs.length fc) := cell_of_row w s 4 _ _ _ h1
  have hlt := h.lt
  obtain ⟨fad, PA, pc, CA, cm, cc, rfl, p0, p1, p2, p3, p4, p5⟩ := hF.get4 b hb0 hb1
  rw [hfn] at p0 p1 p2 p4 p5
  dsimp only at p0 p1 p2 p4 p5
  have q0 := (less_cell p0).2
  have q1 := (less_cell p1).2
  have q2 := (less_cell p2).2
  have q3 := (less_cell p3).2
  have hfb : (fad.add (b.toNat * 4)).block ≠ s := (less_cell p0).1
  clear p0 p1 p2 p3 hF hfn
  have H := Lib.hid h
  have HT := Lib.hid hT
  have HPS := Lib.hid hps
  have HOF := Lib.hid hof
  have HPL := Lib.hid hpl
  have HP4 := Lib.hid p4
  clear h h1 hT hps hof hpl p4
  have HKS : Hid (∀ w', Below w.heap.size w w' → (w'.cell? ⟨s, 1, none⟩ = some (.int .i64 a) ∧ w'.cell? ⟨s, 2, none⟩ = some (.int .i64 b) ∧ w'.cell? ⟨s, 3, none⟩ = some (.pointer (some ⟨g, 0, none⟩)) ∧ w'.cell? ⟨s, 4, none⟩ = some (.slice (some fad) fs.length fc) ∧ w'.cell? (fad.add (b.toNat * 4)) = some (.slice PA prm.length pc) ∧ w'.cell? ⟨(fad.add (b.toNat * 4)).block, (fad.add (b.toNat * 4)).off + 1, none⟩ = some (.int .i64 rst) ∧ w'.cell? ⟨(fad.add (b.toNat * 4)).block, (fad.add (b.toNat * 4)).off + 2, none⟩ = some (.int .i64 loc) ∧ w'.cell? ⟨(fad.add (b.toNat * 4)).block, (fad.add (b.toNat * 4)).off + 3, none⟩ = some (.slice CA cm cc) ∧ Below w.heap.size w w')) := Lib.hid fun w' hB => ⟨cell_below hB c1, cell_below hB c2, cell_below hB c3, cell_below hB c4, cell_below hB q0, cell_below hB q1, cell_below hB q2, cell_below hB q3, hB⟩
  have hdn : (prm.length : Int) - (ps.length : Int) = (d : Int) := by omega
  have hd0 : (0 : Int) ≤ (d : Int) := by omega
  have hpc : prm.length ≤ pc := HP4.out.1
  have hdle : d ≤ prm.length := by omega
  have HDD := Lib.hid hd
  have hro' : (rst == ofa) = false := beq_eq_false_iff_ne.2 hro
  clear hd
  go_enter Tryd.func123, Tryd.ntmps123
  go_wp2
  go_region_held3 (fun w' => w'.cell? ⟨s, 1, none⟩ = some (.int .i64 a) ∧ w'.cell? ⟨s, 2, none⟩ = some (.int .i64 b) ∧ w'.cell? ⟨s, 3, none⟩ = some (.pointer (some ⟨g, 0, none⟩)) ∧ w'.cell? ⟨s, 4, none⟩ = some (.slice (some fad) fs.length fc) ∧ w'.cell? (fad.add (b.toNat * 4)) = some (.slice PA prm.length pc) ∧ w'.cell? ⟨(fad.add (b.toNat * 4)).block, (fad.add (b.toNat * 4)).off + 1, none⟩ = some (.int .i64 rst) ∧ w'.cell? ⟨(fad.add (b.toNat * 4)).block, (fad.add (b.toNat * 4)).off + 2, none⟩ = some (.int .i64 loc) ∧ w'.cell? ⟨(fad.add (b.toNat * 4)).block, (fad.add (b.toNat * 4)).off + 3, none⟩ = some (.slice CA cm cc) ∧ Below w.heap.size w w')
    ((refine HKS.out _ ?_; first | assumption | exact below_drew' (below_refl _) | (go_split_ands; first | assumption | exact below_then (by assumption) (by assumption) | exact below_alloc' (by assumption) | exact below_alloc' (below_drew' (below_refl _)) | exact below_alloc' (below_then (below_drew' (below_refl _)) (by assumption)) | exact below_set4 (by assumption) (by first | exact Nat.le_refl _ | exact Below.size (by assumption)))))
    (first
      | (go_at_call 31; go_split_ands; refine (parts_calls g TS a _ (HT.out.below (by assumption)) (by rw [HPS.out]; exact HPL.out)).mono ?_; rintro e w2 ⟨v, rfl, ho, hb⟩; rw [HPS.out] at ho; obtain ⟨A2, c2', rfl, hsl⟩ := ho.sl' s (by rename_i hB; have := Below.size hB; omega); have HSL := Lib.hid hsl; have HOW := Lib.hid ho; obtain ⟨hcc, hff⟩ := bcell hb; clear ho hsl))
  · go_split_ands
    have HBE := Lib.hid (below_alloc' (o := .cells #[.slice PA prm.length pc, .int .i64 rst, .int .i64 loc, .slice CA cm cc] 83) (below_then (below_drew' (below_refl w)) hb))
    have HSL2 := Lib.hid (HSL.out.below (But.of_below (g := s) (below_alloc' (o := .cells #[.slice PA prm.length pc, .int .i64 rst, .int .i64 loc, .slice CA cm cc] 83) (below_refl w2))).less)
    have hB : (w2.alloc (.cells #[.slice PA prm.length pc, .int .i64 rst, .int .i64 loc, .slice CA cm cc] 83)).heap[w2.heap.size]? = some (.cells #[.slice PA prm.length pc, .int .i64 rst, .int .i64 loc, .slice CA cm cc] 83) := heap_alloc_new _ _
    have hnbs : w2.heap.size ≠ s := by have := hb.size; have : w.heap.size ≤ w2.heap.size := this; omega
    have HD0 := Lib.hid (Did.from H.out hs HBE.out)
    obtain ⟨d1, d2, d3, d4, _⟩ := HKS.out _ HBE.out
    generalize hW : w2.alloc (.cells #[.slice PA prm.length pc, .int .i64 rst, .int .i64 loc, .slice CA cm cc] 83) = W at *
    generalize hN : w2.heap.size = nb at *
    have F0 : W.cell? ⟨nb, 0, none⟩ = some (.slice PA prm.length pc) := cell_of_row _ _ 0 _ _ _ hB
    have F1 : W.cell? ⟨nb, 1, none⟩ = some (.int .i64 rst) := cell_of_row _ _ 1 _ _ _ hB
    clear hW hN hB hb
    have HOFC : Hid (∀ n, Calls Tryd.prog 32 #[.pointer (some ⟨g, 0, none⟩), .int .i64 a] (W.drewN n) fun e w' => e = .returned (.int .i64 ofa) ∧ w' = W.drewN n) := Lib.hid fun n => (of_calls g TS a _ (HT.out.below (below_drewN' HBE.out))).mono fun e w' h => ⟨by rw [h.1, HOF.out], h.2.symm⟩
    go_wp2
    go_quiet ((go_at_call 32; exact Calls.quiet_of_same (HOFC.out _)))
    go_wp2_with fail
    refine (fail_calls base s _ 17 _ _ _ _ (HD0.out.inv.below (below_drewN' (below_refl _)))).mono ?_
    rintro e w3 ⟨rfl, hi, hbut⟩
    have HD1 : Hid (Did base s ⟨29, a, b, g, some fad, fs.length, fc, lo, cd, res, LV⟩ w ls st 17 w3) := Lib.hid ⟨hi, HD0.out.bel.trans ((below_mono (below_drewN' (below_refl _)) (by have := HD0.out.inv.lt; omega)).trans (below_base hbut hs (by have := HD0.out.inv.lt; simp; omega)))⟩
    have F3 : w3.cell? ⟨nb, 0, none⟩ = some (.slice PA prm.length pc) := hbut.cell (cell_below (below_drewN' (below_refl _)) F0) hnbs
    have HP5 : Hid (IntSl (K.less w3 s) PA pc prm) := Lib.hid (HP4.out.below (((But.of_below (g := s) HBE.out).drewN).trans hbut).less)
    obtain ⟨SV2, k1⟩ := HD1.out.inv.blk
    have e1 : w3.cell? ⟨s, 1, none⟩ = some (.int .i64 a) := cell_of_row _ s 1 _ _ _ k1
    clear hi hbut k1
    have hrun : ∀ w : World, (Instr.slice 28 (.slice PA prm.length pc) none (some (.int .i64 (d : Int))) none).run Tryd.prog w = .ok (.slice PA d pc) w := fun w => take_run PA prm.length pc d (by have := HP5.out.1; omega) w
    go_wp2_with fail
    refine (take_at base s _ (prm.take d) PA d pc (by rw [List.length_take]; omega) w w3 ls st 17 HD1.out.inv (HP5.out.take d) HD1.out.bel (by omega) (by omega) hs).mono ?_
    rintro e w4 ⟨A4, c4', rfl, ho, hd⟩
    have HD2 := Lib.hid hd
    obtain ⟨SV3, k2⟩ := HD2.out.inv.blk
    have g1 : w4.cell? ⟨s, 1, none⟩ = some (.int .i64 a) := cell_of_row _ s 1 _ _ _ k2
    clear ho hd k2
    go_wp2_with fail
    refine (put_lit base s _ [a] 1 rfl _ rfl w4 ls _ _ HD2.out.inv (by simp; omega) hs).mono ?_
    rintro e w9 ⟨rfl, hd⟩
    have HD3 := Lib.hid (HD2.out.trans hd)
    clear hd
    go_wp2
    exact bodyPost_end (results_none rfl _ _ _) rfl ⟨rfl, HD3.out⟩
  · go_split_ands
    have hbz := below_then (below_drew' (below_alloc' (o := .cells #[.slice none 0 0, .int .i64 0, .int .i64 0, .slice none 0 0] 83) (below_refl w))) hb
    have HBE := Lib.hid (below_set4 (a := .slice PA prm.length pc) (b := .int .i64 rst) (c := .int .i64 loc) (d := .slice CA cm cc) hbz (Nat.le_refl _))
    have hnbs : w.heap.size ≠ s := by omega
    have hbb : w2.heap[w.heap.size]? = some (.cells #[.slice none 0 0, .int .i64 0, .int .i64 0, .slice none 0 0] 83) := (hb.block _ (by simp)).trans (heap_alloc_new _ _)
    have HSL2 : Hid (IntSl (K.less ((((w2.setCell ⟨w.heap.size, 0, none⟩ (.slice PA prm.length pc)).setCell ⟨w.heap.size, 1, none⟩ (.int .i64 rst)).setCell ⟨w.heap.size, 2, none⟩ (.int .i64 loc)).setCell ⟨w.heap.size, 3, none⟩ (.slice CA cm cc)) s) A2 c2' ps) := Lib.hid (own_less HOW.out but_set4 (by simp) (by simp; omega))
    have hB : ((((w2.setCell ⟨w.heap.size, 0, none⟩ (.slice PA prm.length pc)).setCell ⟨w.heap.size, 1, none⟩ (.int .i64 rst)).setCell ⟨w.heap.size, 2, none⟩ (.int .i64 loc)).setCell ⟨w.heap.size, 3, none⟩ (.slice CA cm cc)).heap[w.heap.size]? = some (.cells #[.slice PA prm.length pc, .int .i64 rst, .int .i64 loc, .slice CA cm cc] 83) := heap_setCell_same _ _ 3 _ _ _ (heap_setCell_same _ _ 2 _ _ _ (heap_setCell_same _ _ 1 _ _ _ (heap_setCell_same _ _ 0 _ _ _ hbb)))
    have HD0 := Lib.hid (Did.from H.out hs HBE.out)
    obtain ⟨d1, d2, d3, d4, _⟩ := HKS.out _ HBE.out
    generalize hW : ((((w2.setCell ⟨w.heap.size, 0, none⟩ (.slice PA prm.length pc)).setCell ⟨w.heap.size, 1, none⟩ (.int .i64 rst)).setCell ⟨w.heap.size, 2, none⟩ (.int .i64 loc)).setCell ⟨w.heap.size, 3, none⟩ (.slice CA cm cc)) = W at *
    obtain ⟨nb, hN⟩ : ∃ nb, w.heap.size = nb := ⟨_, rfl⟩
    rw [hN] at hB hnbs ⊢
    have F0 : W.cell? ⟨nb, 0, none⟩ = some (.slice PA prm.length pc) := cell_of_row _ _ 0 _ _ _ hB
    have F1 : W.cell? ⟨nb, 1, none⟩ = some (.int .i64 rst) := cell_of_row _ _ 1 _ _ _ hB
    clear hW hN hB hb
    have HOFC : Hid (∀ n, Calls Tryd.prog 32 #[.pointer (some ⟨g, 0, none⟩), .int .i64 a] (W.drewN n) fun e w' => e = .returned (.int .i64 ofa) ∧ w' = W.drewN n) := Lib.hid fun n => (of_calls g TS a _ (HT.out.below (below_drewN' HBE.out))).mono fun e w' h => ⟨by rw [h.1, HOF.out], h.2.symm⟩
    go_wp2
    go_quiet ((go_at_call 32; exact Calls.quiet_of_same (HOFC.out _)))
    go_wp2_with fail
    refine (fail_calls base s _ 17 _ _ _ _ (HD0.out.inv.below (below_drewN' (below_refl _)))).mono ?_
    rintro e w3 ⟨rfl, hi, hbut⟩
    have HD1 : Hid (Did base s ⟨29, a, b, g, some fad, fs.length, fc, lo, cd, res, LV⟩ w ls st 17 w3) := Lib.hid ⟨hi, HD0.out.bel.trans ((below_mono (below_drewN' (below_refl _)) (by have := HD0.out.inv.lt; omega)).trans (below_base hbut hs (by have := HD0.out.inv.lt; simp; omega)))⟩
    have F3 : w3.cell? ⟨nb, 0, none⟩ = some (.slice PA prm.length pc) := hbut.cell (cell_below (below_drewN' (below_refl _)) F0) hnbs
    have HP5 : Hid (IntSl (K.less w3 s) PA pc prm) := Lib.hid (HP4.out.below (((But.of_below (g := s) HBE.out).drewN).trans hbut).less)
    obtain ⟨SV2, k1⟩ := HD1.out.inv.blk
    have e1 : w3.cell? ⟨s, 1, none⟩ = some (.int .i64 a) := cell_of_row _ s 1 _ _ _ k1
    clear hi hbut k1
    have hrun : ∀ w : World, (Instr.slice 28 (.slice PA prm.length pc) none (some (.int .i64 (d : Int))) none).run Tryd.prog w = .ok (.slice PA d pc) w := fun w => take_run PA prm.length pc d (by have := HP5.out.1; omega) w
    go_wp2_with fail
    refine (take_at base s _ (prm.take d) PA d pc (by rw [List.length_take]; omega) w w3 ls st 17 HD1.out.inv (HP5.out.take d) HD1.out.bel (by omega) (by omega) hs).mono ?_
    rintro e w4 ⟨A4, c4', rfl, ho, hd⟩
    have HD2 := Lib.hid hd
    obtain ⟨SV3, k2⟩ := HD2.out.inv.blk
    have g1 : w4.cell? ⟨s, 1, none⟩ = some (.int .i64 a) := cell_of_row _ s 1 _ _ _ k2
    clear ho hd k2
    go_wp2_with fail
    refine (put_lit base s _ [a] 1 rfl _ rfl w4 ls _ _ HD2.out.inv (by simp; omega) hs).mono ?_
    rintro e w9 ⟨rfl, hd⟩
    have HD3 := Lib.hid (HD2.out.trans hd)
    clear hd
    go_wp2
    exact bodyPost_end (results_none rfl _ _ _) rfl ⟨rfl, HD3.out⟩
set_option maxHeartbeats 2000000 in
theorem fits_ne (base s : Nat) (a b : Int) (g : Nat) (FA : Option Addr) (nf fc : Nat) (lo cd res : Int) (LV : Value) (w : World) (ls st : List Int) (h : SInv base s ⟨29, a, b, g, FA, nf, fc, lo, cd, res, LV⟩ w ls st 0) (hs : base ≤ s) (hb : st.length ≤ 17592186044300) (TS : List Ty) (hT : Tab w g TS) (ps : List Int) (hps : partsOf TS a = ps) (hpl : ps.length * 8 ≤ 140737488355328) (ofa : Int) (hof : ofOf TS a = ofa) (fs : List Fn) (hnf : nf = fs.length) (hF : FnSl (less w s) FA fc fs) (hb0 : 0 ≤ b) (hb1 : b < fs.length) (prm : List Int) (rst loc : Int) (cod : List Ins) (hfn : fnAt fs b = ⟨prm, rst, loc, cod⟩) (d : Nat) (hd : prm.length = d + ps.length) (hl : d ≤ st.length) (hro : rst = ofa) (hbq : decide (prm.drop d = ps) = false) :
    Calls Tryd.prog 123 #[.pointer (some ⟨s, 0, none⟩)] w (PlainPost base s ⟨29, a, b, g, FA, nf, fc, lo, cd, res, LV⟩ w ls (st.take (st.length - d) ++ [a]) (takeErr 17 (prm.take d) (st.drop (st.length - d)))) := by
  obtain ⟨SV, h1, _⟩ := h.ex
  have c1 : w.cell? ⟨s, 1, none⟩ = some (.int .i64 a) := cell_of_row w s 1 _ _ _ h1
  have c2 : w.cell? ⟨s, 2, none⟩ = some (.int .i64 b) := cell_of_row w s 2 _ _ _ h1
  have c3 : w.cell? ⟨s, 3, none⟩ = some (.pointer (some ⟨g, 0, none⟩)) := cell_of_row w s 3 _ _ _ h1
  subst hnf
  have c4 : w.cell? ⟨s, 4, none⟩ = some (.slice FA fs.length fc) := cell_of_row w s 4 _ _ _ h1
  have hlt := h.lt
  obtain ⟨fad, PA, pc, CA, cm, cc, rfl, p0, p1, p2, p3, p4, p5⟩ := hF.get4 b hb0 hb1
  rw [hfn] at p0 p1 p2 p4 p5
  dsimp only at p0 p1 p2 p4 p5
  have q0 := (less_cell p0).2
  have q1 := (less_cell p1).2
  have q2 := (less_cell p2).2
  have q3 := (less_cell p3).2
  have hfb : (fad.add (b.toNat * 4)).block ≠ s := (less_cell p0).1
  clear p0 p1 p2 p3 hF hfn
  have H := Lib.hid h
  have HT := Lib.hid hT
  have HPS := Lib.hid hps
  have HOF := Lib.hid hof
  have HPL := Lib.hid hpl
  have HP4 := Lib.hid p4
  clear h h1 hT hps hof hpl p4
  have HKS : Hid (∀ w', Below w.heap.size w w' → (w'.cell? ⟨s, 1, none⟩ = some (.int .i64 a) ∧ w'.cell? ⟨s, 2, none⟩ = some (.int .i64 b) ∧ w'.cell? ⟨s, 3, none⟩ = some (.pointer (some ⟨g, 0, none⟩)) ∧ w'.cell? ⟨s, 4, none⟩ = some (.slice (some fad) fs.length fc) ∧ w'.cell? (fad.add (b.toNat * 4)) = some (.slice PA prm.length pc) ∧ w'.cell? ⟨(fad.add (b.toNat * 4)).block, (fad.add (b.toNat * 4)).off + 1, none⟩ = some (.int .i64 rst) ∧ w'.cell? ⟨(fad.add (b.toNat * 4)).block, (fad.add (b.toNat * 4)).off + 2, none⟩ = some (.int .i64 loc) ∧ w'.cell? ⟨(fad.add (b.toNat * 4)).block, (fad.add (b.toNat * 4)).off + 3, none⟩ = some (.slice CA cm cc) ∧ Below w.heap.size w w')) := Lib.hid fun w' hB => ⟨cell_below hB c1, cell_below hB c2, cell_below hB c3, cell_below hB c4, cell_below hB q0, cell_below hB q1, cell_below hB q2, cell_below hB q3, hB⟩
  have hdn : (prm.length : Int) - (ps.length : Int) = (d : Int) := by omega
  have hd0 : (0 : Int) ≤ (d : Int) := by omega
  have hpc : prm.length ≤ pc := HP4.out.1
  have hdle : d ≤ prm.length := by omega
  have HDD := Lib.hid hd
  subst hro
  obtain ⟨A', hrunD, hA'⟩ := drop_run PA prm.length pc d (by omega) hpc
  have hsub : prm.length - d = ps.length := by omega
  rw [hsub] at hrunD
  have HAP : Hid (∀ W : World, IntSl W PA pc prm → IntSl W A' (pc - d) (prm.drop d)) := Lib.hid fun W h => hA' W prm rfl h
  have HBQ := Lib.hid hbq
  clear hA' hbq hsub hd
  go_enter Tryd.func123, Tryd.ntmps123
  go_wp2
  go_region_held3 (fun w' => w'.cell? ⟨s, 1, none⟩ = some (.int .i64 a) ∧ w'.cell? ⟨s, 2, none⟩ = some (.int .i64 b) ∧ w'.cell? ⟨s, 3, none⟩ = some (.pointer (some ⟨g, 0, none⟩)) ∧ w'.cell? ⟨s, 4, none⟩ = some (.slice (some fad) fs.length fc) ∧ w'.cell? (fad.add (b.toNat * 4)) = some (.slice PA prm.length pc) ∧ w'.cell? ⟨(fad.add (b.toNat * 4)).block, (fad.add (b.toNat * 4)).off + 1, none⟩ = some (.int .i64 rst) ∧ w'.cell? ⟨(fad.add (b.toNat * 4)).block, (fad.add (b.toNat * 4)).off + 2, none⟩ = some (.int .i64 loc) ∧ w'.cell? ⟨(fad.add (b.toNat * 4)).block, (fad.add (b.toNat * 4)).off + 3, none⟩ = some (.slice CA cm cc) ∧ Below w.heap.size w w')
    ((refine HKS.out _ ?_; first | assumption | exact below_drew' (below_refl _) | (go_split_ands; first | assumption | exact below_then (by assumption) (by assumption) | exact below_alloc' (by assumption) | exact below_alloc' (below_drew' (below_refl _)) | exact below_alloc' (below_then (below_drew' (below_refl _)) (by assumption)) | exact below_set4 (by assumption) (by first | exact Nat.le_refl _ | exact Below.size (by assumption)))))
    (first
      | (go_at_call 31; go_split_ands; refine (parts_calls g TS a _ (HT.out.below (by assumption)) (by rw [HPS.out]; exact HPL.out)).mono ?_; rintro e w2 ⟨v, rfl, ho, hb⟩; rw [HPS.out] at ho; obtain ⟨A2, c2', rfl, hsl⟩ := ho.sl' s (by rename_i hB; have := Below.size hB; omega); have HSL := Lib.hid hsl; have HOW := Lib.hid ho; obtain ⟨hcc, hff⟩ := bcell hb; clear ho hsl))
  · go_split_ands
    have HBE := Lib.hid (below_alloc' (o := .cells #[.slice PA prm.length pc, .int .i64 rst, .int .i64 loc, .slice CA cm cc] 83) (below_then (below_drew' (below_refl w)) hb))
    have HSL2 := Lib.hid (HSL.out.below (But.of_below (g := s) (below_alloc' (o := .cells #[.slice PA prm.length pc, .int .i64 rst, .int .i64 loc, .slice CA cm cc] 83) (below_refl w2))).less)
    have hB : (w2.alloc (.cells #[.slice PA prm.length pc, .int .i64 rst, .int .i64 loc, .slice CA cm cc] 83)).heap[w2.heap.size]? = some (.cells #[.slice PA prm.length pc, .int .i64 rst, .int .i64 loc, .slice CA cm cc] 83) := heap_alloc_new _ _
    have hnbs : w2.heap.size ≠ s := by have := hb.size; have : w.heap.size ≤ w2.heap.size := this; omega
    have HD0 := Lib.hid (Did.from H.out hs HBE.out)
    obtain ⟨d1, d2, d3, d4, _⟩ := HKS.out _ HBE.out
    generalize hW : w2.alloc (.cells #[.slice PA prm.length pc, .int .i64 rst, .int .i64 loc, .slice CA cm cc] 83) = W at *
    generalize hN : w2.heap.size = nb at *
    have F0 : W.cell? ⟨nb, 0, none⟩ = some (.slice PA prm.length pc) := cell_of_row _ _ 0 _ _ _ hB
    have F1 : W.cell? ⟨nb, 1, none⟩ = some (.int .i64 rst) := cell_of_row _ _ 1 _ _ _ hB
    clear hW hN hB hb
    have HOFC : Hid (∀ n, Calls Tryd.prog 32 #[.pointer (some ⟨g, 0, none⟩), .int .i64 a] (W.drewN n) fun e w' => e = .returned (.int .i64 rst) ∧ w' = W.drewN n) := Lib.hid fun n => (of_calls g TS a _ (HT.out.below (below_drewN' HBE.out))).mono fun e w' h => ⟨by rw [h.1, HOF.out], h.2.symm⟩
    have HEQ : Hid (∀ n, Calls Tryd.prog 75 #[.slice A' ps.length (pc - d), .slice A2 ps.length c2'] (W.drewN n) fun e w' => e = .returned (.bool false) ∧ ∃ m, w' = W.drewN m) := Lib.hid fun n => by
      have k := equal_calls A' (pc - d) (prm.drop d) A2 c2' ps (W.drewN n) (((HAP.out W (HP4.out.below (But.of_below (g := s) HBE.out).less).of_less).below (below_drewN' (below_refl W)))) (HSL2.out.of_less.below (below_drewN' (below_refl W)))
      rw [show (prm.drop d).length = ps.length by rw [List.length_drop]; have := HDD.out; omega, HBQ.out] at k
      exact k.mono fun e w' h => ⟨h.1, by obtain ⟨m, hm⟩ := h.2; exact ⟨_, hm.trans (World.drewN_drewN _ _ _)⟩⟩
    go_wp2
    go_quiet ((first | (go_at_call 32; exact Calls.quiet_of_same (HOFC.out _)) | (go_at_call 75; exact HEQ.out _)))
    go_wp2_with fail
    refine (fail_calls base s _ 17 _ _ _ _ (HD0.out.inv.below (below_drewN' (below_refl _)))).mono ?_
    rintro e w3 ⟨rfl, hi, hbut⟩
    have HD1 : Hid (Did base s ⟨29, a, b, g, some fad, fs.length, fc, lo, cd, res, LV⟩ w ls st 17 w3) := Lib.hid ⟨hi, HD0.out.bel.trans ((below_mono (below_drewN' (below_refl _)) (by have := HD0.out.inv.lt; omega)).trans (below_base hbut hs (by have := HD0.out.inv.lt; simp; omega)))⟩
    have F3 : w3.cell? ⟨nb, 0, none⟩ = some (.slice PA prm.length pc) := hbut.cell (cell_below (below_drewN' (below_refl _)) F0) hnbs
    have HP5 : Hid (IntSl (K.less w3 s) PA pc prm) := Lib.hid (HP4.out.below (((But.of_below (g := s) HBE.out).drewN).trans hbut).less)
    obtain ⟨SV2, k1⟩ := HD1.out.inv.blk
    have e1 : w3.cell? ⟨s, 1, none⟩ = some (.int .i64 a) := cell_of_row _ s 1 _ _ _ k1
    clear hi hbut k1
    have hrun : ∀ w : World, (Instr.slice 28 (.slice PA prm.length pc) none (some (.int .i64 (d : Int))) none).run Tryd.prog w = .ok (.slice PA d pc) w := fun w => take_run PA prm.length pc d (by have := HP5.out.1; omega) w
    go_wp2_with fail
    refine (take_at base s _ (prm.take d) PA d pc (by rw [List.length_take]; omega) w w3 ls st 17 HD1.out.inv (HP5.out.take d) HD1.out.bel (by omega) (by omega) hs).mono ?_
    rintro e w4 ⟨A4, c4', rfl, ho, hd⟩
    have HD2 := Lib.hid hd
    obtain ⟨SV3, k2⟩ := HD2.out.inv.blk
    have g1 : w4.cell? ⟨s, 1, none⟩ = some (.int .i64 a) := cell_of_row _ s 1 _ _ _ k2
    clear ho hd k2
    go_wp2_with fail
    refine (put_lit base s _ [a] 1 rfl _ rfl w4 ls _ _ HD2.out.inv (by simp; omega) hs).mono ?_
    rintro e w9 ⟨rfl, hd⟩
    have HD3 := Lib.hid (HD2.out.trans hd)
    clear hd
    go_wp2
    exact bodyPost_end (results_none rfl _ _ _) rfl ⟨rfl, HD3.out⟩
  · go_split_ands
    have hbz := below_then (below_drew' (below_alloc' (o := .cells #[.slice none 0 0, .int .i64 0, .int .i64 0, .slice none 0 0] 83) (below_refl w))) hb
    have HBE := Lib.hid (below_set4 (a := .slice PA prm.length pc) (b := .int .i64 rst) (c := .int .i64 loc) (d := .slice CA cm cc) hbz (Nat.le_refl _))
    have hnbs : w.heap.size ≠ s := by omega
    have hbb : w2.heap[w.heap.size]? = some (.cells #[.slice none 0 0, .int .i64 0, .int .i64 0, .slice none 0 0] 83) := (hb.block _ (by simp)).trans (heap_alloc_new _ _)
    have HSL2 : Hid (IntSl (K.less ((((w2.setCell ⟨w.heap.size, 0, none⟩ (.slice PA prm.length pc)).setCell ⟨w.heap.size, 1, none⟩ (.int .i64 rst)).setCell ⟨w.heap.size, 2, none⟩ (.int .i64 loc)).setCell ⟨w.heap.size, 3, none⟩ (.slice CA cm cc)) s) A2 c2' ps) := Lib.hid (own_less HOW.out but_set4 (by simp) (by simp; omega))
    have hB : ((((w2.setCell ⟨w.heap.size, 0, none⟩ (.slice PA prm.length pc)).setCell ⟨w.heap.size, 1, none⟩ (.int .i64 rst)).setCell ⟨w.heap.size, 2, none⟩ (.int .i64 loc)).setCell ⟨w.heap.size, 3, none⟩ (.slice CA cm cc)).heap[w.heap.size]? = some (.cells #[.slice PA prm.length pc, .int .i64 rst, .int .i64 loc, .slice CA cm cc] 83) := heap_setCell_same _ _ 3 _ _ _ (heap_setCell_same _ _ 2 _ _ _ (heap_setCell_same _ _ 1 _ _ _ (heap_setCell_same _ _ 0 _ _ _ hbb)))
    have HD0 := Lib.hid (Did.from H.out hs HBE.out)
    obtain ⟨d1, d2, d3, d4, _⟩ := HKS.out _ HBE.out
    generalize hW : ((((w2.setCell ⟨w.heap.size, 0, none⟩ (.slice PA prm.length pc)).setCell ⟨w.heap.size, 1, none⟩ (.int .i64 rst)).setCell ⟨w.heap.size, 2, none⟩ (.int .i64 loc)).setCell ⟨w.heap.size, 3, none⟩ (.slice CA cm cc)) = W at *
    obtain ⟨nb, hN⟩ : ∃ nb, w.heap.size = nb := ⟨_, rfl⟩
    rw [hN] at hB hnbs ⊢
    have F0 : W.cell? ⟨nb, 0, none⟩ = some (.slice PA prm.length pc) := cell_of_row _ _ 0 _ _ _ hB
    have F1 : W.cell? ⟨nb, 1, none⟩ = some (.int .i64 rst) := cell_of_row _ _ 1 _ _ _ hB
    clear hW hN hB hb
    have HOFC : Hid (∀ n, Calls Tryd.prog 32 #[.pointer (some ⟨g, 0, none⟩), .int .i64 a] (W.drewN n) fun e w' => e = .returned (.int .i64 rst) ∧ w' = W.drewN n) := Lib.hid fun n => (of_calls g TS a _ (HT.out.below (below_drewN' HBE.out))).mono fun e w' h => ⟨by rw [h.1, HOF.out], h.2.symm⟩
    have HEQ : Hid (∀ n, Calls Tryd.prog 75 #[.slice A' ps.length (pc - d), .slice A2 ps.length c2'] (W.drewN n) fun e w' => e = .returned (.bool false) ∧ ∃ m, w' = W.drewN m) := Lib.hid fun n => by
      have k := equal_calls A' (pc - d) (prm.drop d) A2 c2' ps (W.drewN n) (((HAP.out W (HP4.out.below (But.of_below (g := s) HBE.out).less).of_less).below (below_drewN' (below_refl W)))) (HSL2.out.of_less.below (below_drewN' (below_refl W)))
      rw [show (prm.drop d).length = ps.length by rw [List.length_drop]; have := HDD.out; omega, HBQ.out] at k
      exact k.mono fun e w' h => ⟨h.1, by obtain ⟨m, hm⟩ := h.2; exact ⟨_, hm.trans (World.drewN_drewN _ _ _)⟩⟩
    go_wp2
    go_quiet ((first | (go_at_call 32; exact Calls.quiet_of_same (HOFC.out _)) | (go_at_call 75; exact HEQ.out _)))
    go_wp2_with fail
    refine (fail_calls base s _ 17 _ _ _ _ (HD0.out.inv.below (below_drewN' (below_refl _)))).mono ?_
    rintro e w3 ⟨rfl, hi, hbut⟩
    have HD1 : Hid (Did base s ⟨29, a, b, g, some fad, fs.length, fc, lo, cd, res, LV⟩ w ls st 17 w3) := Lib.hid ⟨hi, HD0.out.bel.trans ((below_mono (below_drewN' (below_refl _)) (by have := HD0.out.inv.lt; omega)).trans (below_base hbut hs (by have := HD0.out.inv.lt; simp; omega)))⟩
    have F3 : w3.cell? ⟨nb, 0, none⟩ = some (.slice PA prm.length pc) := hbut.cell (cell_below (below_drewN' (below_refl _)) F0) hnbs
    have HP5 : Hid (IntSl (K.less w3 s) PA pc prm) := Lib.hid (HP4.out.below (((But.of_below (g := s) HBE.out).drewN).trans hbut).less)
    obtain ⟨SV2, k1⟩ := HD1.out.inv.blk
    have e1 : w3.cell? ⟨s, 1, none⟩ = some (.int .i64 a) := cell_of_row _ s 1 _ _ _ k1
    clear hi hbut k1
    have hrun : ∀ w : World, (Instr.slice 28 (.slice PA prm.length pc) none (some (.int .i64 (d : Int))) none).run Tryd.prog w = .ok (.slice PA d pc) w := fun w => take_run PA prm.length pc d (by have := HP5.out.1; omega) w
    go_wp2_with fail
    refine (take_at base s _ (prm.take d) PA d pc (by rw [List.length_take]; omega) w w3 ls st 17 HD1.out.inv (HP5.out.take d) HD1.out.bel (by omega) (by omega) hs).mono ?_
    rintro e w4 ⟨A4, c4', rfl, ho, hd⟩
    have HD2 := Lib.hid hd
    obtain ⟨SV3, k2⟩ := HD2.out.inv.blk
    have g1 : w4.cell? ⟨s, 1, none⟩ = some (.int .i64 a) := cell_of_row _ s 1 _ _ _ k2
    clear ho hd k2
    go_wp2_with fail
    refine (put_lit base s _ [a] 1 rfl _ rfl w4 ls _ _ HD2.out.inv (by simp; omega) hs).mono ?_
    rintro e w9 ⟨rfl, hd⟩
    have HD3 := Lib.hid (HD2.out.trans hd)
    clear hd
    go_wp2
    exact bodyPost_end (results_none rfl _ _ _) rfl ⟨rfl, HD3.out⟩
set_option maxHeartbeats 2000000 in
theorem fits_ok (base s : Nat) (a b : Int) (g : Nat) (FA : Option Addr) (nf fc : Nat) (lo cd res : Int) (LV : Value) (w : World) (ls st : List Int) (h : SInv base s ⟨29, a, b, g, FA, nf, fc, lo, cd, res, LV⟩ w ls st 0) (hs : base ≤ s) (hb : st.length ≤ 17592186044300) (TS : List Ty) (hT : Tab w g TS) (ps : List Int) (hps : partsOf TS a = ps) (hpl : ps.length * 8 ≤ 140737488355328) (ofa : Int) (hof : ofOf TS a = ofa) (fs : List Fn) (hnf : nf = fs.length) (hF : FnSl (less w s) FA fc fs) (hb0 : 0 ≤ b) (hb1 : b < fs.length) (prm : List Int) (rst loc : Int) (cod : List Ins) (hfn : fnAt fs b = ⟨prm, rst, loc, cod⟩) (d : Nat) (hd : prm.length = d + ps.length) (hl : d ≤ st.length) (hro : rst = ofa) (hbq : decide (prm.drop d = ps) = true) :
    Calls Tryd.prog 123 #[.pointer (some ⟨s, 0, none⟩)] w (PlainPost base s ⟨29, a, b, g, FA, nf, fc, lo, cd, res, LV⟩ w ls (st.take (st.length - d) ++ [a]) (takeErr 0 (prm.take d) (st.drop (st.length - d)))) := by
  obtain ⟨SV, h1, _⟩ := h.ex
  have c1 : w.cell? ⟨s, 1, none⟩ = some (.int .i64 a) := cell_of_row w s 1 _ _ _ h1
  have c2 : w.cell? ⟨s, 2, none⟩ = some (.int .i64 b) := cell_of_row w s 2 _ _ _ h1
  have c3 : w.cell? ⟨s, 3, none⟩ = some (.pointer (some ⟨g, 0, none⟩)) := cell_of_row w s 3 _ _ _ h1
  subst hnf
  have c4 : w.cell? ⟨s, 4, none⟩ = some (.slice FA fs.length fc) := cell_of_row w s 4 _ _ _ h1
  have hlt := h.lt
  obtain ⟨fad, PA, pc, CA, cm, cc, rfl, p0, p1, p2, p3, p4, p5⟩ := hF.get4 b hb0 hb1
  rw [hfn] at p0 p1 p2 p4 p5
  dsimp only at p0 p1 p2 p4 p5
  have q0 := (less_cell p0).2
  have q1 := (less_cell p1).2
  have q2 := (less_cell p2).2
  have q3 := (less_cell p3).2
  have hfb : (fad.add (b.toNat * 4)).block ≠ s := (less_cell p0).1
  clear p0 p1 p2 p3 hF hfn
  have H := Lib.hid h
  have HT := Lib.hid hT
  have HPS := Lib.hid hps
  have HOF := Lib.hid hof
  have HPL := Lib.hid hpl
  have HP4 := Lib.hid p4
  clear h h1 hT hps hof hpl p4
  have HKS : Hid (∀ w', Below w.heap.size w w' → (w'.cell? ⟨s, 1, none⟩ = some (.int .i64 a) ∧ w'.cell? ⟨s, 2, none⟩ = some (.int .i64 b) ∧ w'.cell? ⟨s, 3, none⟩ = some (.pointer (some ⟨g, 0, none⟩)) ∧ w'.cell? ⟨s, 4, none⟩ = some (.slice (some fad) fs.length fc) ∧ w'.cell? (fad.add (b.toNat * 4)) = some (.slice PA prm.length pc) ∧ w'.cell? ⟨(fad.add (b.toNat * 4)).block, (fad.add (b.toNat * 4)).off + 1, none⟩ = some (.int .i64 rst) ∧ w'.cell? ⟨(fad.add (b.toNat * 4)).block, (fad.add (b.toNat * 4)).off + 2, none⟩ = some (.int .i64 loc) ∧ w'.cell? ⟨(fad.add (b.toNat * 4)).block, (fad.add (b.toNat * 4)).off + 3, none⟩ = some (.slice CA cm cc) ∧ Below w.heap.size w w')) := Lib.hid fun w' hB => ⟨cell_below hB c1, cell_below hB c2, cell_below hB c3, cell_below hB c4, cell_below hB q0, cell_below hB q1, cell_below hB q2, cell_below hB q3, hB⟩
  have hdn : (prm.length : Int) - (ps.length : Int) = (d : Int) := by omega
  have hd0 : (0 : Int) ≤ (d : Int) := by omega
  have hpc : prm.length ≤ pc := HP4.out.1
  have hdle : d ≤ prm.length := by omega
  have HDD := Lib.hid hd
  subst hro
  obtain ⟨A', hrunD, hA'⟩ := drop_run PA prm.length pc d (by omega) hpc
  have hsub : prm.length - d = ps.length := by omega
  rw [hsub] at hrunD
  have HAP : Hid (∀ W : World, IntSl W PA pc prm → IntSl W A' (pc - d) (prm.drop d)) := Lib.hid fun W h => hA' W prm rfl h
  have HBQ := Lib.hid hbq
  clear hA' hbq hsub hd
  go_enter Tryd.func123, Tryd.ntmps123
  go_wp2
  go_region_held3 (fun w' => w'.cell? ⟨s, 1, none⟩ = some (.int .i64 a) ∧ w'.cell? ⟨s, 2, none⟩ = some (.int .i64 b) ∧ w'.cell? ⟨s, 3, none⟩ = some (.pointer (some ⟨g, 0, none⟩)) ∧ w'.cell? ⟨s, 4, none⟩ = some (.slice (some fad) fs.length fc) ∧ w'.cell? (fad.add (b.toNat * 4)) = some (.slice PA prm.length pc) ∧ w'.cell? ⟨(fad.add (b.toNat * 4)).block, (fad.add (b.toNat * 4)).off + 1, none⟩ = some (.int .i64 rst) ∧ w'.cell? ⟨(fad.add (b.toNat * 4)).block, (fad.add (b.toNat * 4)).off + 2, none⟩ = some (.int .i64 loc) ∧ w'.cell? ⟨(fad.add (b.toNat * 4)).block, (fad.add (b.toNat * 4)).off + 3, none⟩ = some (.slice CA cm cc) ∧ Below w.heap.size w w')
    ((refine HKS.out _ ?_; first | assumption | exact below_drew' (below_refl _) | (go_split_ands; first | assumption | exact below_then (by assumption) (by assumption) | exact below_alloc' (by assumption) | exact below_alloc' (below_drew' (below_refl _)) | exact below_alloc' (below_then (below_drew' (below_refl _)) (by assumption)) | exact below_set4 (by assumption) (by first | exact Nat.le_refl _ | exact Below.size (by assumption)))))
    (first
      | (go_at_call 31; go_split_ands; refine (parts_calls g TS a _ (HT.out.below (by assumption)) (by rw [HPS.out]; exact HPL.out)).mono ?_; rintro e w2 ⟨v, rfl, ho, hb⟩; rw [HPS.out] at ho; obtain ⟨A2, c2', rfl, hsl⟩ := ho.sl' s (by rename_i hB; have := Below.size hB; omega); have HSL := Lib.hid hsl; have HOW := Lib.hid ho; obtain ⟨hcc, hff⟩ := bcell hb; clear ho hsl))
  · go_split_ands
    have HBE := Lib.hid (below_alloc' (o := .cells #[.slice PA prm.length pc, .int .i64 rst, .int .i64 loc, .slice CA cm cc] 83) (below_then (below_drew' (below_refl w)) hb))
    have HSL2 := Lib.hid (HSL.out.below (But.of_below (g := s) (below_alloc' (o := .cells #[.slice PA prm.length pc, .int .i64 rst, .int .i64 loc, .slice CA cm cc] 83) (below_refl w2))).less)
    have hB : (w2.alloc (.cells #[.slice PA prm.length pc, .int .i64 rst, .int .i64 loc, .slice CA cm cc] 83)).heap[w2.heap.size]? = some (.cells #[.slice PA prm.length pc, .int .i64 rst, .int .i64 loc, .slice CA cm cc] 83) := heap_alloc_new _ _
    have hnbs : w2.heap.size ≠ s := by have := hb.size; have : w.heap.size ≤ w2.heap.size := this; omega
    have HD0 := Lib.hid (Did.from H.out hs HBE.out)
    obtain ⟨d1, d2, d3, d4, _⟩ := HKS.out _ HBE.out
    generalize hW : w2.alloc (.cells #[.slice PA prm.length pc, .int .i64 rst, .int .i64 loc, .slice CA cm cc] 83) = W at *
    generalize hN : w2.heap.size = nb at *
    have F0 : W.cell? ⟨nb, 0, none⟩ = some (.slice PA prm.length pc) := cell_of_row _ _ 0 _ _ _ hB
    have F1 : W.cell? ⟨nb, 1, none⟩ = some (.int .i64 rst) := cell_of_row _ _ 1 _ _ _ hB
    clear hW hN hB hb
    have HOFC : Hid (∀ n, Calls Tryd.prog 32 #[.pointer (some ⟨g, 0, none⟩), .int .i64 a] (W.drewN n) fun e w' => e = .returned (.int .i64 rst) ∧ w' = W.drewN n) := Lib.hid fun n => (of_calls g TS a _ (HT.out.below (below_drewN' HBE.out))).mono fun e w' h => ⟨by rw [h.1, HOF.out], h.2.symm⟩
    have HEQ : Hid (∀ n, Calls Tryd.prog 75 #[.slice A' ps.length (pc - d), .slice A2 ps.length c2'] (W.drewN n) fun e w' => e = .returned (.bool true) ∧ ∃ m, w' = W.drewN m) := Lib.hid fun n => by
      have k := equal_calls A' (pc - d) (prm.drop d) A2 c2' ps (W.drewN n) (((HAP.out W (HP4.out.below (But.of_below (g := s) HBE.out).less).of_less).below (below_drewN' (below_refl W)))) (HSL2.out.of_less.below (below_drewN' (below_refl W)))
      rw [show (prm.drop d).length = ps.length by rw [List.length_drop]; have := HDD.out; omega, HBQ.out] at k
      exact k.mono fun e w' h => ⟨h.1, by obtain ⟨m, hm⟩ := h.2; exact ⟨_, hm.trans (World.drewN_drewN _ _ _)⟩⟩
    go_wp2
    go_quiet ((first | (go_at_call 32; exact Calls.quiet_of_same (HOFC.out _)) | (go_at_call 75; exact HEQ.out _)))
    obtain ⟨w3, hw3⟩ : ∃ w3, W.drewN nq = w3 := ⟨_, rfl⟩
    rw [hw3]
    have HD1 : Hid (Did base s ⟨29, a, b, g, some fad, fs.length, fc, lo, cd, res, LV⟩ w ls st 0 w3) := Lib.hid (by rw [← hw3]; exact ⟨HD0.out.inv.below (below_drewN' (below_refl _)), HD0.out.bel.trans (below_mono (below_drewN' (below_refl _)) (by have := HD0.out.inv.lt; omega))⟩)
    have F3 : w3.cell? ⟨nb, 0, none⟩ = some (.slice PA prm.length pc) := by rw [← hw3]; exact cell_below (below_drewN' (below_refl _)) F0
    have HP5 : Hid (IntSl (K.less w3 s) PA pc prm) := Lib.hid (by rw [← hw3]; exact HP4.out.below ((But.of_below (g := s) HBE.out).drewN).less)
    obtain ⟨SV2, k1⟩ := HD1.out.inv.blk
    have e1 : w3.cell? ⟨s, 1, none⟩ = some (.int .i64 a) := cell_of_row _ s 1 _ _ _ k1
    clear k1 hw3
    have hrun : ∀ w : World, (Instr.slice 28 (.slice PA prm.length pc) none (some (.int .i64 (d : Int))) none).run Tryd.prog w = .ok (.slice PA d pc) w := fun w => take_run PA prm.length pc d (by have := HP5.out.1; omega) w
    go_wp2_with fail
    refine (take_at base s _ (prm.take d) PA d pc (by rw [List.length_take]; omega) w w3 ls st 0 HD1.out.inv (HP5.out.take d) HD1.out.bel (by omega) (by omega) hs).mono ?_
    rintro e w4 ⟨A4, c4', rfl, ho, hd⟩
    have HD2 := Lib.hid hd
    obtain ⟨SV3, k2⟩ := HD2.out.inv.blk
    have g1 : w4.cell? ⟨s, 1, none⟩ = some (.int .i64 a) := cell_of_row _ s 1 _ _ _ k2
    clear ho hd k2
    go_wp2_with fail
    refine (put_lit base s _ [a] 1 rfl _ rfl w4 ls _ _ HD2.out.inv (by simp; omega) hs).mono ?_
    rintro e w9 ⟨rfl, hd⟩
    have HD3 := Lib.hid (HD2.out.trans hd)
    clear hd
    go_wp2
    exact bodyPost_end (results_none rfl _ _ _) rfl ⟨rfl, HD3.out⟩
  · go_split_ands
    have hbz := below_then (below_drew' (below_alloc' (o := .cells #[.slice none 0 0, .int .i64 0, .int .i64 0, .slice none 0 0] 83) (below_refl w))) hb
    have HBE := Lib.hid (below_set4 (a := .slice PA prm.length pc) (b := .int .i64 rst) (c := .int .i64 loc) (d := .slice CA cm cc) hbz (Nat.le_refl _))
    have hnbs : w.heap.size ≠ s := by omega
    have hbb : w2.heap[w.heap.size]? = some (.cells #[.slice none 0 0, .int .i64 0, .int .i64 0, .slice none 0 0] 83) := (hb.block _ (by simp)).trans (heap_alloc_new _ _)
    have HSL2 : Hid (IntSl (K.less ((((w2.setCell ⟨w.heap.size, 0, none⟩ (.slice PA prm.length pc)).setCell ⟨w.heap.size, 1, none⟩ (.int .i64 rst)).setCell ⟨w.heap.size, 2, none⟩ (.int .i64 loc)).setCell ⟨w.heap.size, 3, none⟩ (.slice CA cm cc)) s) A2 c2' ps) := Lib.hid (own_less HOW.out but_set4 (by simp) (by simp; omega))
    have hB : ((((w2.setCell ⟨w.heap.size, 0, none⟩ (.slice PA prm.length pc)).setCell ⟨w.heap.size, 1, none⟩ (.int .i64 rst)).setCell ⟨w.heap.size, 2, none⟩ (.int .i64 loc)).setCell ⟨w.heap.size, 3, none⟩ (.slice CA cm cc)).heap[w.heap.size]? = some (.cells #[.slice PA prm.length pc, .int .i64 rst, .int .i64 loc, .slice CA cm cc] 83) := heap_setCell_same _ _ 3 _ _ _ (heap_setCell_same _ _ 2 _ _ _ (heap_setCell_same _ _ 1 _ _ _ (heap_setCell_same _ _ 0 _ _ _ hbb)))
    have HD0 := Lib.hid (Did.from H.out hs HBE.out)
    obtain ⟨d1, d2, d3, d4, _⟩ := HKS.out _ HBE.out
    generalize hW : ((((w2.setCell ⟨w.heap.size, 0, none⟩ (.slice PA prm.length pc)).setCell ⟨w.heap.size, 1, none⟩ (.int .i64 rst)).setCell ⟨w.heap.size, 2, none⟩ (.int .i64 loc)).setCell ⟨w.heap.size, 3, none⟩ (.slice CA cm cc)) = W at *
    obtain ⟨nb, hN⟩ : ∃ nb, w.heap.size = nb := ⟨_, rfl⟩
    rw [hN] at hB hnbs ⊢
    have F0 : W.cell? ⟨nb, 0, none⟩ = some (.slice PA prm.length pc) := cell_of_row _ _ 0 _ _ _ hB
    have F1 : W.cell? ⟨nb, 1, none⟩ = some (.int .i64 rst) := cell_of_row _ _ 1 _ _ _ hB
    clear hW hN hB hb
    have HOFC : Hid (∀ n, Calls Tryd.prog 32 #[.pointer (some ⟨g, 0, none⟩), .int .i64 a] (W.drewN n) fun e w' => e = .returned (.int .i64 rst) ∧ w' = W.drewN n) := Lib.hid fun n => (of_calls g TS a _ (HT.out.below (below_drewN' HBE.out))).mono fun e w' h => ⟨by rw [h.1, HOF.out], h.2.symm⟩
    have HEQ : Hid (∀ n, Calls Tryd.prog 75 #[.slice A' ps.length (pc - d), .slice A2 ps.length c2'] (W.drewN n) fun e w' => e = .returned (.bool true) ∧ ∃ m, w' = W.drewN m) := Lib.hid fun n => by
      have k := equal_calls A' (pc - d) (prm.drop d) A2 c2' ps (W.drewN n) (((HAP.out W (HP4.out.below (But.of_below (g := s) HBE.out).less).of_less).below (below_drewN' (below_refl W)))) (HSL2.out.of_less.below (below_drewN' (below_refl W)))
      rw [show (prm.drop d).length = ps.length by rw [List.length_drop]; have := HDD.out; omega, HBQ.out] at k
      exact k.mono fun e w' h => ⟨h.1, by obtain ⟨m, hm⟩ := h.2; exact ⟨_, hm.trans (World.drewN_drewN _ _ _)⟩⟩
    go_wp2
    go_quiet ((first | (go_at_call 32; exact Calls.quiet_of_same (HOFC.out _)) | (go_at_call 75; exact HEQ.out _)))
    obtain ⟨w3, hw3⟩ : ∃ w3, W.drewN nq = w3 := ⟨_, rfl⟩
    rw [hw3]
    have HD1 : Hid (Did base s ⟨29, a, b, g, some fad, fs.length, fc, lo, cd, res, LV⟩ w ls st 0 w3) := Lib.hid (by rw [← hw3]; exact ⟨HD0.out.inv.below (below_drewN' (below_refl _)), HD0.out.bel.trans (below_mono (below_drewN' (below_refl _)) (by have := HD0.out.inv.lt; omega))⟩)
    have F3 : w3.cell? ⟨nb, 0, none⟩ = some (.slice PA prm.length pc) := by rw [← hw3]; exact cell_below (below_drewN' (below_refl _)) F0
    have HP5 : Hid (IntSl (K.less w3 s) PA pc prm) := Lib.hid (by rw [← hw3]; exact HP4.out.below ((But.of_below (g := s) HBE.out).drewN).less)
    obtain ⟨SV2, k1⟩ := HD1.out.inv.blk
    have e1 : w3.cell? ⟨s, 1, none⟩ = some (.int .i64 a) := cell_of_row _ s 1 _ _ _ k1
    clear k1 hw3
    have hrun : ∀ w : World, (Instr.slice 28 (.slice PA prm.length pc) none (some (.int .i64 (d : Int))) none).run Tryd.prog w = .ok (.slice PA d pc) w := fun w => take_run PA prm.length pc d (by have := HP5.out.1; omega) w
    go_wp2_with fail
    refine (take_at base s _ (prm.take d) PA d pc (by rw [List.length_take]; omega) w w3 ls st 0 HD1.out.inv (HP5.out.take d) HD1.out.bel (by omega) (by omega) hs).mono ?_
    rintro e w4 ⟨A4, c4', rfl, ho, hd⟩
    have HD2 := Lib.hid hd
    obtain ⟨SV3, k2⟩ := HD2.out.inv.blk
    have g1 : w4.cell? ⟨s, 1, none⟩ = some (.int .i64 a) := cell_of_row _ s 1 _ _ _ k2
    clear ho hd k2
    go_wp2_with fail
    refine (put_lit base s _ [a] 1 rfl _ rfl w4 ls _ _ HD2.out.inv (by simp; omega) hs).mono ?_
    rintro e w9 ⟨rfl, hd⟩
    have HD3 := Lib.hid (HD2.out.trans hd)
    clear hd
    go_wp2
    exact bodyPost_end (results_none rfl _ _ _) rfl ⟨rfl, HD3.out⟩
end Go.Proofs.YtdilmfnijkjiaaaDoor.K
