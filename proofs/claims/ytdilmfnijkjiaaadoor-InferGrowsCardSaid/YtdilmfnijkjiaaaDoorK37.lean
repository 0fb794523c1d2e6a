import Derived.Test.YtdilmfnijkjiaaaDoorK36
import Derived.Deep.RegionHeld3
import Derived.Deep.RegionWith
set_option maxRecDepth 100000
set_option linter.unusedSimpArgs false
set_option linter.unusedVariables false
namespace Go.Proofs.YtdilmfnijkjiaaaDoor.K
open Go.RowKit
theorem new_any (A : Option Addr) (c : Nat) (ts : List Ty) (W : World) (hT : TySl W A c ts) (hm : ts.length * 40 ≤ 140737488351232) (hp : ∀ t ∈ ts, t.parts.length * 8 ≤ 140737488351232) :
    Calls Tryd.prog 28 #[.slice A ts.length c] W fun e w' => (∃ n : Int, n ≠ 0 ∧ e = .returned (.tuple #[.pointer none, .int .i64 n]) ∧ Below W.heap.size W w') ∨
      (tysOk ts ∧ ∃ g, e = .returned (.tuple #[.pointer (some ⟨g, 0, none⟩), .int .i64 0]) ∧ Tab w' g (allOf ts) ∧ Below W.heap.size W w') := by
  refine (new_calls A c ts W hT (by omega) (fun t ht => by have := hp t ht; omega)).mono ?_
  rintro e w' ⟨hb, ⟨hok, g, rfl, _, hT⟩ | ⟨_, n, hn, rfl⟩⟩
  · exact .inr ⟨hok, g, rfl, hT, hb⟩
  · exact .inl ⟨n, hn, rfl, hb⟩
theorem cells2 {w : World} {b : Nat} {u v : Value} {t : TypeId} (h : w.heap[b]? = some (.cells #[u, v] t (0, 0))) : w.cell? ⟨b, 0, none⟩ = some u ∧ w.cell? ⟨b, 1, none⟩ = some v :=
  ⟨cell_of_row _ _ 0 _ _ _ h, cell_of_row _ _ 1 _ _ _ h⟩
theorem cells4 {w : World} {b : Nat} {u v x y : Value} {t : TypeId} (h : w.heap[b]? = some (.cells #[u, v, x, y] t (0, 0))) : w.cell? ⟨b, 0, none⟩ = some u ∧ w.cell? ⟨b, 1, none⟩ = some v ∧ w.cell? ⟨b, 2, none⟩ = some x ∧ w.cell? ⟨b, 3, none⟩ = some y :=
  ⟨cell_of_row _ _ 0 _ _ _ h, cell_of_row _ _ 1 _ _ _ h, cell_of_row _ _ 2 _ _ _ h, cell_of_row _ _ 3 _ _ _ h⟩
theorem text_one1 (A1 : Option Addr) (k1 : Nat) (A2 : Option Addr) (k2 : Nat) (w : World) (h1 : IntSl w A1 k1 []) (h2 : IntSl w A2 k2 [1]) : Calls Tryd.prog 29 #[.agg #[.slice A1 0 k1, .slice A2 1 k2]] w fun e w' => e = .returned (.string ⟨#[124, 32, 49]⟩) ∧ Below w.heap.size w w' := by
  have k := text_calls A1 k1 [] A2 k2 [1] w h1 h2 (by decide) (by decide) (by decide) (by decide)
  rw [show textOf [] [1] = ⟨#[124, 32, 49]⟩ by decide +kernel] at k
  exact k
theorem same_one (A1 : Option Addr) (k1 : Nat) (A2 : Option Addr) (k2 : Nat) (A3 : Option Addr) (k3 : Nat) (A4 : Option Addr) (k4 : Nat) (n : Int) (w : World) (h1 : IntSl w A1 k1 []) (h2 : IntSl w A2 k2 [n]) (h3 : IntSl w A3 k3 []) (h4 : IntSl w A4 k4 [n]) :
    Calls Tryd.prog 33 #[.agg #[.slice A1 0 k1, .slice A2 1 k2], .agg #[.slice A3 0 k3, .slice A4 1 k4]] w fun e w' => e = .returned (.bool true) ∧ Below w.heap.size w w' := by
  have k := same_calls A1 k1 [] A2 k2 [n] A3 k3 [] A4 k4 [n] w h1 h2 h3 h4
  rw [show (decide (([] : List Int) = []) && decide ([n] = [n])) = true by simp] at k
  exact k
set_option maxHeartbeats 4000000 in
theorem maybes_calls (A : Option Addr) (c : Nat) (ts : List Ty) (n slot : Int) (w : World) (hT : TySl w A c ts) (hm : ts.length * 40 ≤ 140737488351232) (hp : ∀ t ∈ ts, t.parts.length * 8 ≤ 140737488351232) :
    Calls Tryd.prog 7 #[.slice A ts.length c, .int .i64 n, .int .i64 slot] w fun e w' => e = .returned (.bool true) ∧ Below w.heap.size w w' := by
  have HT := Lib.hid hT
  have HP := Lib.hid hp
  have HM := Lib.hid hm
  clear hT hp hm
  go_enter Tryd.func7, Tryd.ntmps7
  go_wp2_with fail
  refine (shown_calls w).mono ?_
  rintro e w0 ⟨rfl, hb0⟩
  have HB0 := Lib.hid hb0
  clear hb0
  go_wp2_with fail
  refine (new_any A c ts w0 (HT.out.below HB0.out) HM.out HP.out).mono ?_
  rintro e w1 (⟨m, hm, rfl, hb1⟩ | ⟨hok, g, rfl, hT1, hb1⟩)
  · have HB1 := Lib.hid (below_then HB0.out hb1)
    clear hb1
    go_wp2_with fail
    go_ret
    exact ⟨rfl, HB1.out⟩
  have HB1 := Lib.hid (below_then HB0.out hb1)
  have HT1 := Lib.hid hT1
  have HOK := Lib.hid hok
  have HPL := Lib.hid (parts_le HP.out)
  clear HB0 hb1 hT1 hok HT HP HM
  go_wp2_with fail
  refine (kind_calls g (allOf ts) n w1 HT1.out).mono ?_
  rintro e w2 ⟨rfl, rfl⟩
  by_cases hk : kOf (allOf ts) n = 5
  rotate_left
  · go_wp2_with fail
    go_ret
    exact ⟨rfl, HB1.out⟩
  have HK := Lib.hid hk
  rw [hk]
  clear hk
  go_wp2_with fail
  have hb := below_alloc' (o := .cells #[.pointer (some ⟨g, 0, none⟩), .slice none 0 0, .int .i64 0, .int .i64 0] 34) (below_refl w1)
  have HB2 := Lib.hid (below_then HB1.out hb)
  have HT2 := Lib.hid (HT1.out.below hb)
  have R34 := Lib.hid (heap_alloc_new w1 (.cells #[.pointer (some ⟨g, 0, none⟩), .slice none 0 0, .int .i64 0, .int .i64 0] 34))
  clear hb HB1 HT1
  generalize w1.alloc (.cells #[.pointer (some ⟨g, 0, none⟩), .slice none 0 0, .int .i64 0, .int .i64 0] 34) = W1 at *
  generalize w1.heap.size = b1 at *
  refine (step_sl 31 n 0 g (allOf ts) 0 none 0 [] none 0 [] W1 HT2.out (HPL.out n) (by simp) (by simp) (IntSl.nil _) (IntSl.nil _) _ _ _ (m_none HK.out) 0 0 0 1 rfl rfl rfl rfl).mono ?_
  rintro e w3 ⟨A3a, k3a, A3b, k3b, rfl, hs1, hs2, hb⟩
  have hbx := below_alloc' (o := .cells #[.slice A3a 0 k3a, .slice A3b 1 k3b] 30) (below_refl w3)
  have hbb := below_then hb hbx
  have R34_1 := Lib.hid (row_below hbb R34.out)
  have HT_2 := Lib.hid (HT2.out.below hbb)
  have HB_3 := Lib.hid (below_then HB2.out hbb)
  clear R34 HT2 HB2
  have R3 := Lib.hid (heap_alloc_new w3 (.cells #[.slice A3a 0 k3a, .slice A3b 1 k3b] 30))
  have Sa3 := Lib.hid (hs1.below hbx)
  have Sb3 := Lib.hid (hs2.below hbx)
  clear hs1 hs2 hb hbx hbb
  obtain ⟨c0, c1, c2, c3⟩ := cells4 R34_1.out
  go_wp2_with fail
  clear c0 c1 c2 c3
  have hsz3 : (w3.alloc (.cells #[.slice A3a 0 k3a, .slice A3b 1 k3b] 30)).heap.size = w3.heap.size + 1 := by simp
  generalize w3.alloc (.cells #[.slice A3a 0 k3a, .slice A3b 1 k3b] 30) = W3 at *
  generalize w3.heap.size = b3 at *
  have hbl := below_alloc' (o := .cells #[.int .i64 slot] 3) (below_refl W3)
  have R34_4 := Lib.hid (row_below hbl R34_1.out)
  have HT_5 := Lib.hid (HT_2.out.below hbl)
  have HB_6 := Lib.hid (below_then HB_3.out hbl)
  have R3_7 := Lib.hid (row_below hbl R3.out)
  have Sa3_8 := Lib.hid (Sa3.out.below hbl)
  have Sb3_9 := Lib.hid (Sb3.out.below hbl)
  clear R34_1 HT_2 HB_3 R3 Sa3 Sb3
  have hL : IntSl (W3.alloc (.cells #[.int .i64 slot] 3)) (some ⟨W3.heap.size, 0, none⟩) 1 [slot] := lit_ints W3 [slot] _ rfl 1 rfl (by omega)
  rw [hsz3] at hL
  clear hbl hsz3
  generalize W3.alloc (.cells #[.int .i64 slot] 3) = W3l at *
  refine (step_sl 32 n 0 g (allOf ts) 0 none 0 [] (some ⟨b3 + 1, 0, none⟩) 1 [slot] W3l HT_5.out (HPL.out n) (by simp) (by simp) (IntSl.nil _) hL _ _ _ (m_some HOK.out HK.out) 0 1 0 1 rfl rfl rfl rfl).mono ?_
  rintro e w4 ⟨A4a, k4a, A4b, k4b, rfl, hs1, hs2, hb⟩
  have hbx := below_alloc' (o := .cells #[.slice A4a 0 k4a, .slice A4b 1 k4b] 30) (below_refl w4)
  have hbb := below_then hb hbx
  have R34_10 := Lib.hid (row_below hbb R34_4.out)
  have HT_11 := Lib.hid (HT_5.out.below hbb)
  have HB_12 := Lib.hid (below_then HB_6.out hbb)
  have R3_13 := Lib.hid (row_below hbb R3_7.out)
  have Sa3_14 := Lib.hid (Sa3_8.out.below hbb)
  have Sb3_15 := Lib.hid (Sb3_9.out.below hbb)
  clear R34_4 HT_5 HB_6 R3_7 Sa3_8 Sb3_9
  have R4 := Lib.hid (heap_alloc_new w4 (.cells #[.slice A4a 0 k4a, .slice A4b 1 k4b] 30))
  have Sa4 := Lib.hid (hs1.below hbx)
  have Sb4 := Lib.hid (hs2.below hbx)
  clear hs1 hs2 hb hbx hbb
  clear hL
  obtain ⟨c0, c1, c2, c3⟩ := cells4 R34_10.out
  obtain ⟨c4, c5⟩ := cells2 R3_13.out
  go_wp2_with fail
  clear c0 c1 c2 c3 c4 c5
  have hsz4 : (w4.alloc (.cells #[.slice A4a 0 k4a, .slice A4b 1 k4b] 30)).heap.size = w4.heap.size + 1 := by simp
  generalize w4.alloc (.cells #[.slice A4a 0 k4a, .slice A4b 1 k4b] 30) = W4 at *
  generalize w4.heap.size = b4 at *
  clear hsz4
  refine (step_sl 34 n 0 g (allOf ts) 0 A3a k3a [] A3b k3b [n] W4 HT_11.out (HPL.out n) (by simp) (by simp) Sa3_14.out Sb3_15.out _ _ _ (m_force HK.out) 0 1 0 1 rfl rfl rfl rfl).mono ?_
  rintro e w5 ⟨A5a, k5a, A5b, k5b, rfl, hs1, hs2, hb⟩
  have hbx := below_alloc' (o := .cells #[.slice A5a 0 k5a, .slice A5b 1 k5b] 30) (below_refl w5)
  have hbb := below_then hb hbx
  have R34_16 := Lib.hid (row_below hbb R34_10.out)
  have HT_17 := Lib.hid (HT_11.out.below hbb)
  have HB_18 := Lib.hid (below_then HB_12.out hbb)
  have R3_19 := Lib.hid (row_below hbb R3_13.out)
  have Sa3_20 := Lib.hid (Sa3_14.out.below hbb)
  have Sb3_21 := Lib.hid (Sb3_15.out.below hbb)
  have R4_22 := Lib.hid (row_below hbb R4.out)
  have Sa4_23 := Lib.hid (Sa4.out.below hbb)
  have Sb4_24 := Lib.hid (Sb4.out.below hbb)
  clear R34_10 HT_11 HB_12 R3_13 Sa3_14 Sb3_15 R4 Sa4 Sb4
  have R5 := Lib.hid (heap_alloc_new w5 (.cells #[.slice A5a 0 k5a, .slice A5b 1 k5b] 30))
  have Sa5 := Lib.hid (hs1.below hbx)
  have Sb5 := Lib.hid (hs2.below hbx)
  clear hs1 hs2 hb hbx hbb
  obtain ⟨c0, c1, c2, c3⟩ := cells4 R34_16.out
  obtain ⟨c4, c5⟩ := cells2 R4_22.out
  go_wp2_with fail
  clear c0 c1 c2 c3 c4 c5
  have hsz5 : (w5.alloc (.cells #[.slice A5a 0 k5a, .slice A5b 1 k5b] 30)).heap.size = w5.heap.size + 1 := by simp
  generalize w5.alloc (.cells #[.slice A5a 0 k5a, .slice A5b 1 k5b] 30) = W5 at *
  generalize w5.heap.size = b5 at *
  clear hsz5
  refine (step_sl 33 n 0 g (allOf ts) 0 A4a k4a [] A4b k4b [n] W5 HT_17.out (HPL.out n) (by simp) (by simp) Sa4_23.out Sb4_24.out _ _ _ (m_isnone HK.out) 0 1 0 1 rfl rfl rfl rfl).mono ?_
  rintro e w6 ⟨A6a, k6a, A6b, k6b, rfl, hs1, hs2, hb⟩
  have hbx := below_alloc' (o := .cells #[.slice A6a 0 k6a, .slice A6b 1 k6b] 30) (below_refl w6)
  have hbb := below_then hb hbx
  have R34_25 := Lib.hid (row_below hbb R34_16.out)
  have HT_26 := Lib.hid (HT_17.out.below hbb)
  have HB_27 := Lib.hid (below_then HB_18.out hbb)
  have R3_28 := Lib.hid (row_below hbb R3_19.out)
  have Sa3_29 := Lib.hid (Sa3_20.out.below hbb)
  have Sb3_30 := Lib.hid (Sb3_21.out.below hbb)
  have R4_31 := Lib.hid (row_below hbb R4_22.out)
  have Sa4_32 := Lib.hid (Sa4_23.out.below hbb)
  have Sb4_33 := Lib.hid (Sb4_24.out.below hbb)
  have R5_34 := Lib.hid (row_below hbb R5.out)
  have Sa5_35 := Lib.hid (Sa5.out.below hbb)
  have Sb5_36 := Lib.hid (Sb5.out.below hbb)
  clear R34_16 HT_17 HB_18 R3_19 Sa3_20 Sb3_21 R4_22 Sa4_23 Sb4_24 R5 Sa5 Sb5
  have R6 := Lib.hid (heap_alloc_new w6 (.cells #[.slice A6a 0 k6a, .slice A6b 1 k6b] 30))
  have Sa6 := Lib.hid (hs1.below hbx)
  have Sb6 := Lib.hid (hs2.below hbx)
  clear hs1 hs2 hb hbx hbb
  have HW := Lib.hid (show wantM (allOf ts) n slot = (if slot = -1 then 15 else if slot ≠ ofOf (allOf ts) n then 16 else 0) from rfl)
  generalize wantM (allOf ts) n slot = v at *
  obtain ⟨ad, rfl, hof⟩ := Sb5_36.out.getI 0 (Int.le_refl _) (by simp)
  have hof : (w6.alloc (.cells #[.slice A6a 0 k6a, .slice A6b 1 k6b] 30)).cell? ad = some (.int .i64 (ofOf (allOf ts) n)) := hof
  by_cases h1 : slot = -1
  · have hv : v = 15 := by have := HW.out; rw [if_pos h1] at this; exact this
    subst hv
    clear HW
    go_wp2_with fail
    generalize w6.alloc (.cells #[.slice A6a 0 k6a, .slice A6b 1 k6b] 30) = W6 at *
    generalize w6.heap.size = b6 at *
    obtain ⟨c0, c1⟩ := cells2 R3_28.out
    obtain ⟨c2, c3⟩ := cells2 R4_31.out
    obtain ⟨c4, c5⟩ := cells2 R5_34.out
    have HKS : Hid (∀ w', Below W6.heap.size W6 w' → (w'.cell? ⟨b3, 0, none⟩ = some (.slice A3a 0 k3a) ∧ w'.cell? ⟨b3, 1, none⟩ = some (.slice A3b 1 k3b) ∧ w'.cell? ⟨b4, 0, none⟩ = some (.slice A4a 0 k4a) ∧ w'.cell? ⟨b4, 1, none⟩ = some (.slice A4b 1 k4b) ∧ w'.cell? ⟨b5, 1, none⟩ = some (.slice (some ad) 1 k5b) ∧ w'.cell? ad = some (.int .i64 (ofOf (allOf ts) n)) ∧ Below W6.heap.size W6 w')) := Lib.hid fun w' h => ⟨cell_below h c0, cell_below h c1, cell_below h c2, cell_below h c3, cell_below h c5, cell_below h hof, h⟩
    clear c4
    go_region_held3 (fun w' => w'.cell? ⟨b3, 0, none⟩ = some (.slice A3a 0 k3a) ∧ w'.cell? ⟨b3, 1, none⟩ = some (.slice A3b 1 k3b) ∧ w'.cell? ⟨b4, 0, none⟩ = some (.slice A4a 0 k4a) ∧ w'.cell? ⟨b4, 1, none⟩ = some (.slice A4b 1 k4b) ∧ w'.cell? ⟨b5, 1, none⟩ = some (.slice (some ad) 1 k5b) ∧ w'.cell? ad = some (.int .i64 (ofOf (allOf ts) n)) ∧ Below W6.heap.size W6 w')
      (first
        | exact HKS.out _ (below_refl _)
        | exact HKS.out _ (below_drew' (below_refl _))
        | (go_split_ands; exact HKS.out _ (by assumption))
        | (go_split_ands; exact HKS.out _ (below_then (by assumption) (by assumption)))
        | (go_keep; done))
      (first
        | (go_at_call 33; go_split_ands; with_reducible refine (same_one A3a k3a A3b k3b A4a k4a A4b k4b n _ (Sa3_29.out.below (by assumption)) (Sb3_30.out.below (by assumption)) (Sa4_32.out.below (by assumption)) (Sb4_33.out.below (by assumption))).mono ?_; rintro e w7 ⟨rfl, hb7⟩)
        | (go_at_call 32; go_split_ands; refine (of_calls g (allOf ts) n _ (HT_26.out.below (by assumption))).mono ?_; rintro e w8 ⟨rfl, rfl⟩))
    have hcur : Below W6.heap.size W6 w7 := by first | assumption | exact below_then (by assumption) hb7
    obtain ⟨e0, e1⟩ := cells2 (row_below hcur R6.out)
    have HX := Lib.hid (text_one1 A6a k6a A6b k6b w7 (Sa6.out.below hcur) (Sb6.out.below hcur))
    have HBZ := Lib.hid (below_then HB_27.out hcur)
    clear HKS hb7
    go_wp2_with fail
    refine HX.out.mono ?_
    rintro e w9 ⟨rfl, hb9⟩
    have HBY := Lib.hid (below_then HBZ.out hb9)
    clear e0 e1 HX HBZ hb9
    go_wp2
    go_ret
    exact ⟨rfl, HBY.out⟩
  · have hoc : ∀ W, Below (w6.alloc (.cells #[.slice A6a 0 k6a, .slice A6b 1 k6b] 30)).heap.size (w6.alloc (.cells #[.slice A6a 0 k6a, .slice A6b 1 k6b] 30)) W → Calls Tryd.prog 32 #[.pointer (some ⟨g, 0, none⟩), .int .i64 n] W fun e w' => e = .returned (.int .i64 (ofOf (allOf ts) n)) ∧ W = w' := fun W h => of_calls g (allOf ts) n W (HT_26.out.below h)
    have HOC := Lib.hid hoc
    clear hoc
    by_cases h2 : slot = ofOf (allOf ts) n
    · have hv : v = 0 := by have := HW.out; rw [if_neg h1, if_neg (fun k => k h2)] at this; exact this
      subst hv
      clear HW
      go_wp2_with fail
      refine (HOC.out _ (below_refl _)).mono ?_
      rintro e wq ⟨rfl, rfl⟩
      clear HOC
      go_wp2_with fail
      generalize w6.alloc (.cells #[.slice A6a 0 k6a, .slice A6b 1 k6b] 30) = W6 at *
      generalize w6.heap.size = b6 at *
      obtain ⟨c0, c1⟩ := cells2 R3_28.out
      obtain ⟨c2, c3⟩ := cells2 R4_31.out
      obtain ⟨c4, c5⟩ := cells2 R5_34.out
      have HKS : Hid (∀ w', Below W6.heap.size W6 w' → (w'.cell? ⟨b3, 0, none⟩ = some (.slice A3a 0 k3a) ∧ w'.cell? ⟨b3, 1, none⟩ = some (.slice A3b 1 k3b) ∧ w'.cell? ⟨b4, 0, none⟩ = some (.slice A4a 0 k4a) ∧ w'.cell? ⟨b4, 1, none⟩ = some (.slice A4b 1 k4b) ∧ w'.cell? ⟨b5, 1, none⟩ = some (.slice (some ad) 1 k5b) ∧ w'.cell? ad = some (.int .i64 (ofOf (allOf ts) n)) ∧ Below W6.heap.size W6 w')) := Lib.hid fun w' h => ⟨cell_below h c0, cell_below h c1, cell_below h c2, cell_below h c3, cell_below h c5, cell_below h hof, h⟩
      clear c4
      go_region_held3 (fun w' => w'.cell? ⟨b3, 0, none⟩ = some (.slice A3a 0 k3a) ∧ w'.cell? ⟨b3, 1, none⟩ = some (.slice A3b 1 k3b) ∧ w'.cell? ⟨b4, 0, none⟩ = some (.slice A4a 0 k4a) ∧ w'.cell? ⟨b4, 1, none⟩ = some (.slice A4b 1 k4b) ∧ w'.cell? ⟨b5, 1, none⟩ = some (.slice (some ad) 1 k5b) ∧ w'.cell? ad = some (.int .i64 (ofOf (allOf ts) n)) ∧ Below W6.heap.size W6 w')
        (first
          | exact HKS.out _ (below_refl _)
          | exact HKS.out _ (below_drew' (below_refl _))
          | (go_split_ands; exact HKS.out _ (by assumption))
          | (go_split_ands; exact HKS.out _ (below_then (by assumption) (by assumption)))
          | (go_keep; done))
        (first
          | (go_at_call 33; go_split_ands; with_reducible refine (same_one A3a k3a A3b k3b A4a k4a A4b k4b n _ (Sa3_29.out.below (by assumption)) (Sb3_30.out.below (by assumption)) (Sa4_32.out.below (by assumption)) (Sb4_33.out.below (by assumption))).mono ?_; rintro e w7 ⟨rfl, hb7⟩)
          | (go_at_call 32; go_split_ands; refine (of_calls g (allOf ts) n _ (HT_26.out.below (by assumption))).mono ?_; rintro e w8 ⟨rfl, rfl⟩))
      have hcur : Below W6.heap.size W6 w7 := by first | assumption | exact below_then (by assumption) hb7
      obtain ⟨e0, e1⟩ := cells2 (row_below hcur R6.out)
      have HX := Lib.hid (text_one1 A6a k6a A6b k6b w7 (Sa6.out.below hcur) (Sb6.out.below hcur))
      have HBZ := Lib.hid (below_then HB_27.out hcur)
      clear HKS hb7
      go_wp2_with fail
      refine HX.out.mono ?_
      rintro e w9 ⟨rfl, hb9⟩
      have HBY := Lib.hid (below_then HBZ.out hb9)
      clear e0 e1 HX HBZ hb9
      go_wp2
      go_ret
      exact ⟨rfl, HBY.out⟩
    · have hv : v = 16 := by have := HW.out; rw [if_neg h1, if_pos h2] at this; exact this
      subst hv
      clear HW
      go_wp2_with fail
      refine (HOC.out _ (below_refl _)).mono ?_
      rintro e wq ⟨rfl, rfl⟩
      clear HOC
      go_wp2_with fail
      generalize w6.alloc (.cells #[.slice A6a 0 k6a, .slice A6b 1 k6b] 30) = W6 at *
      generalize w6.heap.size = b6 at *
      obtain ⟨c0, c1⟩ := cells2 R3_28.out
      obtain ⟨c2, c3⟩ := cells2 R4_31.out
      obtain ⟨c4, c5⟩ := cells2 R5_34.out
      have HKS : Hid (∀ w', Below W6.heap.size W6 w' → (w'.cell? ⟨b3, 0, none⟩ = some (.slice A3a 0 k3a) ∧ w'.cell? ⟨b3, 1, none⟩ = some (.slice A3b 1 k3b) ∧ w'.cell? ⟨b4, 0, none⟩ = some (.slice A4a 0 k4a) ∧ w'.cell? ⟨b4, 1, none⟩ = some (.slice A4b 1 k4b) ∧ w'.cell? ⟨b5, 1, none⟩ = some (.slice (some ad) 1 k5b) ∧ w'.cell? ad = some (.int .i64 (ofOf (allOf ts) n)) ∧ Below W6.heap.size W6 w')) := Lib.hid fun w' h => ⟨cell_below h c0, cell_below h c1, cell_below h c2, cell_below h c3, cell_below h c5, cell_below h hof, h⟩
      clear c4
      go_region_held3 (fun w' => w'.cell? ⟨b3, 0, none⟩ = some (.slice A3a 0 k3a) ∧ w'.cell? ⟨b3, 1, none⟩ = some (.slice A3b 1 k3b) ∧ w'.cell? ⟨b4, 0, none⟩ = some (.slice A4a 0 k4a) ∧ w'.cell? ⟨b4, 1, none⟩ = some (.slice A4b 1 k4b) ∧ w'.cell? ⟨b5, 1, none⟩ = some (.slice (some ad) 1 k5b) ∧ w'.cell? ad = some (.int .i64 (ofOf (allOf ts) n)) ∧ Below W6.heap.size W6 w')
        (first
          | exact HKS.out _ (below_refl _)
          | exact HKS.out _ (below_drew' (below_refl _))
          | (go_split_ands; exact HKS.out _ (by assumption))
          | (go_split_ands; exact HKS.out _ (below_then (by assumption) (by assumption)))
          | (go_keep; done))
        (first
          | (go_at_call 33; go_split_ands; with_reducible refine (same_one A3a k3a A3b k3b A4a k4a A4b k4b n _ (Sa3_29.out.below (by assumption)) (Sb3_30.out.below (by assumption)) (Sa4_32.out.below (by assumption)) (Sb4_33.out.below (by assumption))).mono ?_; rintro e w7 ⟨rfl, hb7⟩)
          | (go_at_call 32; go_split_ands; refine (of_calls g (allOf ts) n _ (HT_26.out.below (by assumption))).mono ?_; rintro e w8 ⟨rfl, rfl⟩))
      have hcur : Below W6.heap.size W6 w7 := by first | assumption | exact below_then (by assumption) hb7
      obtain ⟨e0, e1⟩ := cells2 (row_below hcur R6.out)
      have HX := Lib.hid (text_one1 A6a k6a A6b k6b w7 (Sa6.out.below hcur) (Sb6.out.below hcur))
      have HBZ := Lib.hid (below_then HB_27.out hcur)
      clear HKS hb7
      go_wp2_with fail
      refine HX.out.mono ?_
      rintro e w9 ⟨rfl, hb9⟩
      have HBY := Lib.hid (below_then HBZ.out hb9)
      clear e0 e1 HX HBZ hb9
      go_wp2
      go_ret
      exact ⟨rfl, HBY.out⟩
end Go.Proofs.YtdilmfnijkjiaaaDoor.K
