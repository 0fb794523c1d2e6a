import Derived.Test.YtdilmfnijkjiaaaDoorK38
import Derived.Deep.RegionHeld3
import Derived.Deep.RegionWith
set_option maxRecDepth 100000
set_option linter.unusedSimpArgs false
set_option linter.unusedVariables false
namespace Go.Proofs.YtdilmfnijkjiaaaDoor.K
open Go.RowKit
theorem sl_at {W : World} {ad : Addr} {c : Nat} {xs : List Int} {i : Int} (h : IntSl W (some ad) c xs) (h0 : 0 ≤ i) (h1 : i < xs.length) : W.cell? (ad.add i.toNat) = some (.int .i64 (xs.getD i.toNat 0)) := by
  obtain ⟨ad', e, hc⟩ := h.getI i h0 h1
  cases e
  exact hc
theorem getD_in {xs : List Int} {i : Int} (h0 : 0 ≤ i) (h1 : i < xs.length) : xs.getD i.toNat 0 ∈ xs := by
  rw [List.getD_eq_getElem?_getD, List.getElem?_eq_getElem (by omega)]
  exact List.getElem_mem _
set_option maxHeartbeats 4000000 in
theorem objects_calls (A : Option Addr) (c : Nat) (ts : List Ty) (n part other : Int) (w : World) (hT : TySl w A c ts) (hm : ts.length * 40 ≤ 140737488351232) (hp : ∀ t ∈ ts, t.parts.length * 8 ≤ 140737488351232) :
    Calls Tryd.prog 6 #[.slice A ts.length c, .int .i64 n, .int .i64 part, .int .i64 other] w fun e w' => e = .returned (.bool true) ∧ Below w.heap.size w w' := by
  have HT := Lib.hid hT
  have HP := Lib.hid hp
  have HM := Lib.hid hm
  clear hT hp hm
  go_enter Tryd.func6, Tryd.ntmps6
  go_wp2_with fail
  refine (shown_calls w).mono ?_
  rintro e w0 ⟨rfl, hb0⟩
  have HB0 := Lib.hid hb0
  clear hb0
  go_wp2_with fail
  refine (new_any A c ts w0 (HT.out.below HB0.out) HM.out HP.out).mono ?_
  rintro e w1 (⟨m, hm, rfl, hb1⟩ | ⟨hok, g, rfl, hT1, hb1⟩)
  · have HB1 := Lib.hid (below_then HB0.out hb1)
    clear hb1
    go_wp2_with fail
    go_ret
    exact ⟨rfl, HB1.out⟩
  have HB1 := Lib.hid (below_then HB0.out hb1)
  have HT1 := Lib.hid hT1
  have HOK := Lib.hid hok
  have HPL := Lib.hid (parts_le2 HP.out)
  clear HB0 hb1 hT1 hok HT HP HM
  go_wp2_with fail
  refine (kind_calls g (allOf ts) n w1 HT1.out).mono ?_
  rintro e w2 ⟨rfl, rfl⟩
  by_cases hk : kOf (allOf ts) n = 2
  rotate_left
  · go_wp2_with fail
    go_ret
    exact ⟨rfl, HB1.out⟩
  have HK := Lib.hid hk
  rw [hk]
  clear hk
  go_wp2_with fail
  refine (parts_calls g (allOf ts) n w1 HT1.out (by have := HPL.out n; omega)).mono ?_
  rintro e w2 ⟨v, rfl, ho, hb2⟩
  obtain ⟨PA, pc, rfl, hps⟩ := ho.sl
  have HREC := Lib.hid (o_rec HOK.out HK.out)
  have HIN := Lib.hid (parts_in HOK.out n)
  have HNO : Hid (∀ part : Int, part < 0 ∨ ((partsOf (allOf ts) n).length : Int) ≤ part → ∀ st, stepM (allOf ts) [] 0 0 23 n part 0 [] st = ([], [], 1)) := Lib.hid fun part h st => o_field_no HK.out h st
  have HFI : Hid (∀ part : Int, 0 ≤ part → part < (partsOf (allOf ts) n).length → stepM (allOf ts) [] 0 0 23 n part 0 [] [n] = ([], [(partsOf (allOf ts) n).getD part.toNat 0], 0)) := Lib.hid fun part h0 h1 => o_field HK.out h0 h1
  have HST : Hid (∀ part other : Int, 0 ≤ part → part < (partsOf (allOf ts) n).length → 0 ≤ (partsOf (allOf ts) n).getD part.toNat 0 → stepM (allOf ts) [] 0 0 24 n part 0 [] [n, other] = ([], [], wantO ((partsOf (allOf ts) n).getD part.toNat 0) other)) := Lib.hid fun part other h0 h1 h2 => o_store HK.out h0 h1 h2
  have HPN : Hid ((partsOf (allOf ts) n).length * 8 ≤ 140737488351232) := Lib.hid (HPL.out n)
  have HB2 := Lib.hid (below_then HB1.out hb2)
  have HT2 := Lib.hid (HT1.out.below hb2)
  have SP := Lib.hid hps
  clear hps ho hb2 HB1 HT1 HK HOK HPL
  generalize hps : partsOf (allOf ts) n = ps at *
  have HPS := Lib.hid (show (partsOf (allOf ts) n).length * 8 ≤ 140737488355328 by rw [hps]; have := HPN.out; omega)
  clear hps
  have HLEN : Hid (ps.length < 9223372036854775807) := Lib.hid (by have := HPN.out; omega)
  go_wp2_with fail
  have hb := below_alloc' (o := .cells #[.pointer (some ⟨g, 0, none⟩), .slice none 0 0, .int .i64 0, .int .i64 0] 34) (below_refl w2)
  have HB := Lib.hid (below_then HB2.out hb)
  have HT := Lib.hid (HT2.out.below hb)
  have SPa := Lib.hid (SP.out.below hb)
  have R34 := Lib.hid (heap_alloc_new w2 (.cells #[.pointer (some ⟨g, 0, none⟩), .slice none 0 0, .int .i64 0, .int .i64 0] 34))
  clear hb HB2 HT2 SP
  generalize w2.alloc (.cells #[.pointer (some ⟨g, 0, none⟩), .slice none 0 0, .int .i64 0, .int .i64 0] 34) = W1 at *
  generalize w2.heap.size = b1 at *
  refine (step_big 22 n 0 g (allOf ts) 0 none 0 [] PA pc ps W1 HT.out HPS.out (by have := HPN.out; omega) (by simp) (IntSl.nil _) SPa.out _ _ _ (HREC.out) 0 ps.length 0 1 rfl rfl rfl rfl).mono ?_
  rintro e w3 ⟨A3a, k3a, A3b, k3b, rfl, hs1, hs2, hb⟩
  have hbx := below_alloc' (o := .cells #[.slice A3a 0 k3a, .slice A3b 1 k3b] 30) (below_refl w3)
  have hbb := below_then hb hbx
  have R34_1 := Lib.hid (row_below hbb R34.out)
  have HT_2 := Lib.hid (HT.out.below hbb)
  have HB_3 := Lib.hid (below_then HB.out hbb)
  have SP_4 := Lib.hid (SPa.out.below hbb)
  clear R34 HT HB SPa
  have R3 := Lib.hid (heap_alloc_new w3 (.cells #[.slice A3a 0 k3a, .slice A3b 1 k3b] 30))
  have Sa3 := Lib.hid (hs1.below hbx)
  have Sb3 := Lib.hid (hs2.below hbx)
  clear hs1 hs2 hb hbx hbb
  obtain ⟨ad, rfl, hof⟩ := Sb3.out.getI 0 (Int.le_refl _) (by simp)
  have hof : (w3.alloc (.cells #[.slice A3a 0 k3a, .slice (some ad) 1 k3b] 30)).cell? ad = some (.int .i64 n) := hof
  clear HREC
  obtain ⟨c0, c1, c2, c3⟩ := cells4 R34_1.out
  obtain ⟨c4, c5⟩ := cells2 R3.out
  have HFR : Hid (IntSl (w3.alloc (.cells #[.slice A3a 0 k3a, .slice (some ad) 1 k3b] 30)) (some ad) k3b [n]) := Lib.hid Sb3.out
  by_cases hbad : part < 0 ∨ (ps.length : Int) ≤ part
  · have HNO1 := Lib.hid (HNO.out part hbad)
    have hlt := HLEN.out
    by_cases hb1 : part < 0
    · clear hbad
      go_wp2_with fail
      have hsz3 : (w3.alloc (.cells #[.slice A3a 0 k3a, .slice (some ad) 1 k3b] 30)).heap.size = w3.heap.size + 1 := by simp
      generalize w3.alloc (.cells #[.slice A3a 0 k3a, .slice (some ad) 1 k3b] 30) = W3 at *
      generalize w3.heap.size = b3 at *
      refine (step_big 23 n part g (allOf ts) 0 A3a k3a [] (some ad) k3b [n] W3 HT_2.out HPS.out (by simp) (by simp) Sa3.out HFR.out _ _ _ (HNO1.out [n]) 0 1 0 0 rfl rfl rfl rfl).mono ?_
      rintro e w4 ⟨A4a, k4a, A4b, k4b, rfl, hs1, hs2, hb⟩
      have hbx := below_alloc' (o := .cells #[.slice A4a 0 k4a, .slice A4b 0 k4b] 30) (below_refl w4)
      have hbb := below_then hb hbx
      have R34_5 := Lib.hid (row_below hbb R34_1.out)
      have HT_6 := Lib.hid (HT_2.out.below hbb)
      have HB_7 := Lib.hid (below_then HB_3.out hbb)
      have SP_8 := Lib.hid (SP_4.out.below hbb)
      have R3_9 := Lib.hid (row_below hbb R3.out)
      have Sa3_10 := Lib.hid (Sa3.out.below hbb)
      have Sb3_11 := Lib.hid (Sb3.out.below hbb)
      clear R34_1 HT_2 HB_3 SP_4 R3 Sa3 Sb3
      have R4 := Lib.hid (heap_alloc_new w4 (.cells #[.slice A4a 0 k4a, .slice A4b 0 k4b] 30))
      have Sa4 := Lib.hid (hs1.below hbx)
      have Sb4 := Lib.hid (hs2.below hbx)
      clear hs1 hs2 hb hbx hbb
      obtain ⟨e0, e1⟩ := cells2 R4.out
      go_wp2_with fail
      go_ret
      exact ⟨rfl, HB_7.out⟩
    · have hb2 : (ps.length : Int) ≤ part := by omega
      clear hbad
      go_wp2_with fail
      have hsz3 : (w3.alloc (.cells #[.slice A3a 0 k3a, .slice (some ad) 1 k3b] 30)).heap.size = w3.heap.size + 1 := by simp
      generalize w3.alloc (.cells #[.slice A3a 0 k3a, .slice (some ad) 1 k3b] 30) = W3 at *
      generalize w3.heap.size = b3 at *
      refine (step_big 23 n part g (allOf ts) 0 A3a k3a [] (some ad) k3b [n] W3 HT_2.out HPS.out (by simp) (by simp) Sa3.out HFR.out _ _ _ (HNO1.out [n]) 0 1 0 0 rfl rfl rfl rfl).mono ?_
      rintro e w4 ⟨A4a, k4a, A4b, k4b, rfl, hs1, hs2, hb⟩
      have hbx := below_alloc' (o := .cells #[.slice A4a 0 k4a, .slice A4b 0 k4b] 30) (below_refl w4)
      have hbb := below_then hb hbx
      have R34_12 := Lib.hid (row_below hbb R34_1.out)
      have HT_13 := Lib.hid (HT_2.out.below hbb)
      have HB_14 := Lib.hid (below_then HB_3.out hbb)
      have SP_15 := Lib.hid (SP_4.out.below hbb)
      have R3_16 := Lib.hid (row_below hbb R3.out)
      have Sa3_17 := Lib.hid (Sa3.out.below hbb)
      have Sb3_18 := Lib.hid (Sb3.out.below hbb)
      clear R34_1 HT_2 HB_3 SP_4 R3 Sa3 Sb3
      have R4 := Lib.hid (heap_alloc_new w4 (.cells #[.slice A4a 0 k4a, .slice A4b 0 k4b] 30))
      have Sa4 := Lib.hid (hs1.below hbx)
      have Sb4 := Lib.hid (hs2.below hbx)
      clear hs1 hs2 hb hbx hbb
      obtain ⟨e0, e1⟩ := cells2 R4.out
      go_wp2_with fail
      go_ret
      exact ⟨rfl, HB_14.out⟩
  · have h0 : 0 ≤ part := by omega
    have h1 : part < (ps.length : Int) := by omega
    have hn0 : ¬ part < 0 := by omega
    have hn1 : ¬ (ps.length : Int) ≤ part := by omega
    have HF1 := Lib.hid (HFI.out part h0 h1)
    have HS1 := Lib.hid (HST.out part other h0 h1)
    have hlt := HLEN.out
    clear hbad HFI HST HNO HLEN
    obtain ⟨pad, rfl, _⟩ := SP_4.out.getI part h0 h1
    have HQ : Hid (∀ W pc, IntSl W (some pad) pc ps → W.cell? (pad.add part.toNat) = some (.int .i64 (ps.getD part.toNat 0))) := Lib.hid fun W pc h => sl_at h h0 h1
    have HQ0 : Hid (0 ≤ ps.getD part.toNat 0) := Lib.hid (HIN.out _ (getD_in h0 h1))
    clear HIN
    generalize ps.getD part.toNat 0 = q at *
    go_wp2_with fail
    have hsz3 : (w3.alloc (.cells #[.slice A3a 0 k3a, .slice (some ad) 1 k3b] 30)).heap.size = w3.heap.size + 1 := by simp
    generalize w3.alloc (.cells #[.slice A3a 0 k3a, .slice (some ad) 1 k3b] 30) = W3 at *
    generalize w3.heap.size = b3 at *
    refine (step_big 23 n part g (allOf ts) 0 A3a k3a [] (some ad) k3b [n] W3 HT_2.out HPS.out (by simp) (by simp) Sa3.out Sb3.out _ _ _ (HF1.out) 0 1 0 1 rfl rfl rfl rfl).mono ?_
    rintro e w5 ⟨A5a, k5a, A5b, k5b, rfl, hs1, hs2, hb⟩
    have hbx := below_alloc' (o := .cells #[.slice A5a 0 k5a, .slice A5b 1 k5b] 30) (below_refl w5)
    have hbb := below_then hb hbx
    have R34_19 := Lib.hid (row_below hbb R34_1.out)
    have HT_20 := Lib.hid (HT_2.out.below hbb)
    have HB_21 := Lib.hid (below_then HB_3.out hbb)
    have SP_22 := Lib.hid (SP_4.out.below hbb)
    have R3_23 := Lib.hid (row_below hbb R3.out)
    have Sa3_24 := Lib.hid (Sa3.out.below hbb)
    have Sb3_25 := Lib.hid (Sb3.out.below hbb)
    clear R34_1 HT_2 HB_3 SP_4 R3 Sa3 Sb3
    have R5 := Lib.hid (heap_alloc_new w5 (.cells #[.slice A5a 0 k5a, .slice A5b 1 k5b] 30))
    have Sa5 := Lib.hid (hs1.below hbx)
    have Sb5 := Lib.hid (hs2.below hbx)
    clear hs1 hs2 hb hbx hbb
    obtain ⟨ad5, rfl, hof5⟩ := Sb5.out.getI 0 (Int.le_refl _) (by simp)
    have hof5 : (w5.alloc (.cells #[.slice A5a 0 k5a, .slice (some ad5) 1 k5b] 30)).cell? ad5 = some (.int .i64 q) := hof5
    have hpo := HQ.out _ _ SP_22.out
    clear hof HFR
    obtain ⟨c0, c1, c2, c3⟩ := cells4 R34_19.out
    obtain ⟨c4, c5⟩ := cells2 R5.out
    go_wp2_with fail
    go_quiet (fail)
    clear c0 c1 c2 c3 c4 c5
    clear hof5 hpo
    have hdr : Below (w5.alloc (.cells #[.slice A5a 0 k5a, .slice (some ad5) 1 k5b] 30)).heap.size (w5.alloc (.cells #[.slice A5a 0 k5a, .slice (some ad5) 1 k5b] 30)) ((w5.alloc (.cells #[.slice A5a 0 k5a, .slice (some ad5) 1 k5b] 30)).drewN nq) := below_drewN' (below_refl _)
    have R34_26 := Lib.hid (row_below hdr R34_19.out)
    have HT_27 := Lib.hid (HT_20.out.below hdr)
    have HB_28 := Lib.hid (below_then HB_21.out hdr)
    have SP_29 := Lib.hid (SP_22.out.below hdr)
    have R3_30 := Lib.hid (row_below hdr R3_23.out)
    have Sa3_31 := Lib.hid (Sa3_24.out.below hdr)
    have Sb3_32 := Lib.hid (Sb3_25.out.below hdr)
    have R5_33 := Lib.hid (row_below hdr R5.out)
    have Sa5_34 := Lib.hid (Sa5.out.below hdr)
    have Sb5_35 := Lib.hid (Sb5.out.below hdr)
    clear R34_19 HT_20 HB_21 SP_22 R3_23 Sa3_24 Sb3_25 R5 Sa5 Sb5
    clear hdr
    have hsz5 : ((w5.alloc (.cells #[.slice A5a 0 k5a, .slice (some ad5) 1 k5b] 30)).drewN nq).heap.size = w5.heap.size + 1 := by
      show (w5.alloc (.cells #[.slice A5a 0 k5a, .slice (some ad5) 1 k5b] 30)).heap.size = _
      simp
    generalize (w5.alloc (.cells #[.slice A5a 0 k5a, .slice (some ad5) 1 k5b] 30)).drewN nq = W5 at *
    generalize w5.heap.size = b5 at *
    obtain ⟨c0, c1, c2, c3⟩ := cells4 R34_26.out
    go_wp2_with fail
    clear c0 c1 c2 c3
    have hbl := below_alloc' (o := .cells #[.int .i64 n, .int .i64 other] 3) (below_refl W5)
    have R34_36 := Lib.hid (row_below hbl R34_26.out)
    have HT_37 := Lib.hid (HT_27.out.below hbl)
    have HB_38 := Lib.hid (below_then HB_28.out hbl)
    have SP_39 := Lib.hid (SP_29.out.below hbl)
    have R3_40 := Lib.hid (row_below hbl R3_30.out)
    have Sa3_41 := Lib.hid (Sa3_31.out.below hbl)
    have Sb3_42 := Lib.hid (Sb3_32.out.below hbl)
    have R5_43 := Lib.hid (row_below hbl R5_33.out)
    have Sa5_44 := Lib.hid (Sa5_34.out.below hbl)
    have Sb5_45 := Lib.hid (Sb5_35.out.below hbl)
    clear R34_26 HT_27 HB_28 SP_29 R3_30 Sa3_31 Sb3_32 R5_33 Sa5_34 Sb5_35
    have hL : IntSl (W5.alloc (.cells #[.int .i64 n, .int .i64 other] 3)) (some ⟨W5.heap.size, 0, none⟩) 2 [n, other] := lit_ints W5 [n, other] _ rfl 2 rfl (by omega)
    rw [hsz5] at hL
    clear hbl hsz5
    generalize W5.alloc (.cells #[.int .i64 n, .int .i64 other] 3) = W5l at *
    refine (step_big 24 n part g (allOf ts) 0 none 0 [] (some ⟨b5 + 1, 0, none⟩) 2 [n, other] W5l HT_37.out HPS.out (by simp) (by simp) (IntSl.nil _) hL _ _ _ (HS1.out HQ0.out) 0 2 0 0 rfl rfl rfl rfl).mono ?_
    rintro e w6 ⟨A6a, k6a, A6b, k6b, rfl, hs1, hs2, hb⟩
    have hbx := below_alloc' (o := .cells #[.slice A6a 0 k6a, .slice A6b 0 k6b] 30) (below_refl w6)
    have hbb := below_then hb hbx
    have R34_46 := Lib.hid (row_below hbb R34_36.out)
    have HT_47 := Lib.hid (HT_37.out.below hbb)
    have HB_48 := Lib.hid (below_then HB_38.out hbb)
    have SP_49 := Lib.hid (SP_39.out.below hbb)
    have R3_50 := Lib.hid (row_below hbb R3_40.out)
    have Sa3_51 := Lib.hid (Sa3_41.out.below hbb)
    have Sb3_52 := Lib.hid (Sb3_42.out.below hbb)
    have R5_53 := Lib.hid (row_below hbb R5_43.out)
    have Sa5_54 := Lib.hid (Sa5_44.out.below hbb)
    have Sb5_55 := Lib.hid (Sb5_45.out.below hbb)
    clear R34_36 HT_37 HB_38 SP_39 R3_40 Sa3_41 Sb3_42 R5_43 Sa5_44 Sb5_45
    have R6 := Lib.hid (heap_alloc_new w6 (.cells #[.slice A6a 0 k6a, .slice A6b 0 k6b] 30))
    have Sa6 := Lib.hid (hs1.below hbx)
    have Sb6 := Lib.hid (hs2.below hbx)
    clear hs1 hs2 hb hbx hbb
    clear hL HS1
    have HW := Lib.hid (show wantO q other = (if other = -1 then 15 else if other ≠ q then 16 else 0) from rfl)
    generalize wantO q other = v at *
    have hpo := HQ.out _ _ SP_49.out
    obtain ⟨c0, c1⟩ := cells2 R6.out
    by_cases h1' : other = -1
    · have hv : v = 15 := by have := HW.out; rw [if_pos h1'] at this; exact this
      subst hv
      clear HW
      go_wp2_with fail
      go_ret
      exact ⟨rfl, HB_48.out⟩
    · by_cases h2' : other = q
      · have hv : v = 0 := by have := HW.out; rw [if_neg h1', if_neg (fun k => k h2')] at this; exact this
        subst hv
        clear HW
        go_wp2_with fail
        go_ret
        exact ⟨rfl, HB_48.out⟩
      · have hv : v = 16 := by have := HW.out; rw [if_neg h1', if_pos h2'] at this; exact this
        subst hv
        clear HW
        go_wp2_with fail
        go_ret
        exact ⟨rfl, HB_48.out⟩
end Go.Proofs.YtdilmfnijkjiaaaDoor.K
