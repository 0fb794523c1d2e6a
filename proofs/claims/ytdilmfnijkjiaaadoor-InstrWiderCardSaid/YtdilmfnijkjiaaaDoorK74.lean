import Derived.Test.YtdilmfnijkjiaaaDoorK71
import Derived.Test.YtdilmfnijkjiaaaDoorK62
set_option maxRecDepth 100000
set_option linter.unusedSimpArgs false
set_option linter.unusedVariables false
namespace Go.Proofs.YtdilmfnijkjiaaaDoor.K
open Go.RowKit
theorem parts_most {ts : List Ty} (h : tysOk ts) (a : Int) : (partsOf (allOf ts) a).length ≤ 16 := by
  unfold partsOf
  split
  · rename_i hin
    have hm : tyAt (allOf ts) a ∈ allOf ts := by
      unfold tyAt
      rw [List.getD_eq_getElem?_getD, List.getElem?_eq_getElem (by omega)]
      exact List.getElem_mem _
    simp only [allOf, List.mem_cons] at hm
    rcases hm with e | e | e
    · simp only [allOf] at e ⊢; rw [e]; simp [base0]
    · simp only [allOf] at e ⊢; rw [e]; simp [base1]
    · have h1 := h.2 _ e
      simp only [allOf] at h1 ⊢
      simp only [tyOk, Bool.and_eq_true, decide_eq_true_eq] at h1
      have h2 : mostOf (tyAt (base0 :: base1 :: ts) a).kind ≤ 16 := by unfold mostOf; split <;> (try split) <;> omega
      omega
  · simp
theorem rows_small : ∀ n : Fin 38, (0 ≤ (rws.getD n ⟨⟨#[]⟩, -1, -1, 0, 0, false⟩).takes ∧ (rws.getD n ⟨⟨#[]⟩, -1, -1, 0, 0, false⟩).takes ≤ 20) ∧ (0 ≤ (rws.getD n ⟨⟨#[]⟩, -1, -1, 0, 0, false⟩).leaves ∧ (rws.getD n ⟨⟨#[]⟩, -1, -1, 0, 0, false⟩).leaves ≤ 2) ∧
    (endsB (n : Nat) = true → (rws.getD n ⟨⟨#[]⟩, -1, -1, 0, 0, false⟩).leaves = 0) ∧ (makesB (n : Nat) = true ∨ callsB (n : Nat) = true → (rws.getD n ⟨⟨#[]⟩, -1, -1, 0, 0, false⟩).leaves = 1) := by decide
def Fine (tk lv op : Int) : Prop := (0 ≤ tk ∧ tk ≤ 20) ∧ (0 ≤ lv ∧ lv ≤ 2) ∧ (endsB op = true → lv = 0) ∧ (makesB op = true ∨ callsB op = true → lv = 1)
theorem eff_fine {op a b lo cd : Int} {ts : List Ty} {fs : List Fn} (hok : tysOk ts) (hfs : ∀ f ∈ fs, f.params.length ≤ 16) (h : rightR (rowOf op) (allOf ts) fs.length lo cd a b = true) : Fine (effR (rowOf op) (allOf ts) fs op a b).1 (effR (rowOf op) (allOf ts) fs op a b).2 op := by
  have hin : 0 ≤ op ∧ op < 38 := by
    unfold rowOf at h
    split at h
    · assumption
    · simp [rightR] at h
  have hq := parts_most hok a
  have hp : ∀ n : Int, (fnAt fs n).params.length ≤ 16 := fun n => by
    unfold fnAt
    rw [List.getD_eq_getElem?_getD]
    cases hx : fs[n.toNat]? with
    | none => exact Nat.zero_le _
    | some f => exact hfs f (List.mem_of_getElem? hx)
  have h1 := hp a
  have h2 := hp b
  have hr := rows_small ⟨op.toNat, by omega⟩
  have er : rowOf op = rws.getD op.toNat ⟨⟨#[]⟩, -1, -1, 0, 0, false⟩ := by unfold rowOf; rw [if_pos hin]
  have eo : ((op.toNat : Nat) : Int) = op := by omega
  simp only [eo, ← er] at hr
  have ec : ∀ n : Int, (n = 20 ∨ n = 22 ∨ n = 29 ∨ n = 30) → endsB n = false := fun n hn => by
    rcases hn with rfl | rfl | rfl | rfl <;> rfl
  unfold Fine effR
  by_cases c1 : op = 20
  · rw [if_pos c1]; exact ⟨by dsimp only; omega, by dsimp only; omega, fun e => absurd (e.symm.trans (ec op (by omega))) (by decide), fun _ => rfl⟩
  rw [if_neg c1]
  by_cases c2 : op = 22
  · rw [if_pos c2]; exact ⟨by dsimp only; omega, by dsimp only; omega, fun e => absurd (e.symm.trans (ec op (by omega))) (by decide), fun _ => rfl⟩
  rw [if_neg c2]
  by_cases c3 : op = 29
  · rw [if_pos c3]; exact ⟨by dsimp only; omega, by dsimp only; omega, fun e => absurd (e.symm.trans (ec op (by omega))) (by decide), fun _ => rfl⟩
  rw [if_neg c3]
  by_cases c4 : op = 30
  · rw [if_pos c4]; exact ⟨by dsimp only; omega, by dsimp only; omega, fun e => absurd (e.symm.trans (ec op (by omega))) (by decide), fun _ => rfl⟩
  rw [if_neg c4]
  exact hr
theorem right_b1 {r : Rw} {ts : List Ty} {nf : Nat} {lo cd a b : Int} (ht : twoB r.form = false) (h : rightR r ts nf lo cd a b = true) : b = 0 ∧ rightR r ts nf lo cd a 1 = false := by
  by_cases hb : b = 0
  · exact ⟨hb, by unfold rightR; rw [if_pos ⟨ht, by decide⟩]⟩
  · unfold rightR at h
    rw [if_pos ⟨ht, hb⟩] at h
    cases h
theorem right_bm {r : Rw} {ts : List Ty} {nf : Nat} {lo cd a : Int} (hf : r.form = 7 ∨ r.form = 8) : rightR r ts nf lo cd a (-1) = false := by
  have h2 : twoB r.form = true := by rcases hf with e | e <;> rw [e] <;> rfl
  have hb : ∀ m : Int, belowB (-1) m = false := fun m => by simp [belowB]
  unfold rightR
  rw [if_neg (by rw [h2]; exact fun h => by cases h.1)]
  rcases hf with e | e <;> rw [e] <;> simp [hb]
theorem ends_not {n : Int} (h : endsB n = true) : makesB n = false ∧ callsB n = false := by
  simp only [endsB, Bool.or_eq_true, beq_iff_eq] at h
  rcases h with (rfl | rfl) | rfl <;> exact ⟨rfl, rfl⟩
set_option maxHeartbeats 8000000 in
theorem instrFits_calls (A : Option Addr) (c : Nat) (ts : List Ty) (F : Option Addr) (fc : Nat) (fs : List Fn) (lo cd : Int) (op a b : Int) (w : World) (hE : Env w)
    (hT : TySl w A c ts) (hm : ts.length * 40 ≤ 140737488351232) (hp : ∀ t ∈ ts, t.parts.length * 8 ≤ 140737488351232) (ho : ∀ t ∈ ts, t.of ≤ 9223372036854775807) (hF : FnSl w F fc fs) (hfm : fs.length * 8 ≤ 140737488351232) (hfi : ∀ f ∈ fs, FnIn f)
    (hlo : lo ≤ 9223372036854775807 ∧ -9223372036854775808 ≤ lo) (hcd : cd ≤ 9223372036854775807 ∧ -9223372036854775808 ≤ cd) (hin : InsIn ⟨op, a, b⟩) :
    Calls Tryd.prog 18 #[.agg #[.slice A ts.length c, .slice F fs.length fc, .int .i64 lo, .int .i64 cd], .agg #[.int .i64 op, .int .i64 a, .int .i64 b]] w fun e w' => e = .returned (.bool true) ∧ Below w.heap.size w w' := by
  have hB0 : Below w.heap.size w ((w.alloc (.cells #[.slice A ts.length c, .slice F fs.length fc, .int .i64 lo, .int .i64 cd] 76)).alloc (.cells #[.int .i64 op, .int .i64 a, .int .i64 b] 27)) := below_alloc' (below_alloc' (below_refl w))
  have hrow0 := heap2' w (.cells #[.slice A ts.length c, .slice F fs.length fc, .int .i64 lo, .int .i64 cd] 76) (.cells #[.int .i64 op, .int .i64 a, .int .i64 b] 27)
  have HS := Lib.hid (shownI_calls _ (hE.below hB0))
  have R0 := Lib.hid hrow0.1
  have RI := Lib.hid hrow0.2
  have HT := Lib.hid (hT.below hB0)
  have HF := Lib.hid (hF.below hB0)
  have HBx := Lib.hid hB0
  have HM := Lib.hid hm
  have HP := Lib.hid hp
  have HO := Lib.hid ho
  have hfl : fs.length ≤ 9223372036854775807 := by omega
  clear hB0 hrow0 hT hm hp ho hF hfm hfi hlo hcd hE hin
  go_enter Tryd.func18, Tryd.ntmps18
  go_wp2_with fail
  refine HS.out.mono ?_
  rintro e w1 ⟨rfl, hb⟩
  have HB1 := Lib.hid (below_then HBx.out hb)
  have HT1 := Lib.hid (HT.out.below hb)
  have HF1 := Lib.hid (HF.out.below hb)
  have R0a := Lib.hid ((hb.block _ (Array.getElem?_eq_some_iff.1 R0.out).1).trans R0.out)
  have RIa := Lib.hid ((hb.block _ (Array.getElem?_eq_some_iff.1 RI.out).1).trans RI.out)
  obtain ⟨c0, c1, c2, c3⟩ := cells4' R0a.out
  clear hb HS HT HF R0 RI HBx
  have HSC := Lib.hid (scopes4_calls A c ts F fc fs.length lo cd w1 HT1.out HM.out HP.out HO.out)
  unfold Sc4Post at HSC
  go_wp2_with fail
  refine HSC.out.mono ?_
  rintro e w2 ⟨tv, ok, rfl, hb, hok⟩
  have HB2 := Lib.hid (below_then HB1.out hb)
  have HF2 := Lib.hid (HF1.out.below hb)
  have R0b := Lib.hid ((hb.block _ (Array.getElem?_eq_some_iff.1 R0a.out).1).trans R0a.out)
  have RIb := Lib.hid ((hb.block _ (Array.getElem?_eq_some_iff.1 RIa.out).1).trans RIa.out)
  have HOK := Lib.hid hok
  clear hb HSC HT1 HF1 HB1 hok c0 c1 c2 c3 R0a RIa
  cases ok with
  | false =>
    go_wp2_with fail
    go_ret
    exact ⟨rfl, below_alloc' (below_alloc' HB2.out)⟩
  | true =>
    obtain ⟨g, rfl, hty, htab⟩ := HOK.out rfl
    clear HOK
    have hrow := heap2' w2 (.cells #[.pointer (some ⟨g, 0, none⟩), .slice F fs.length fc, .int .i64 lo, .int .i64 cd] 34) (.cells #[.slice A ts.length c, .slice F fs.length fc, .int .i64 lo, .int .i64 cd] 36)
    have hB3 : Below w2.heap.size w2 ((w2.alloc (.cells #[.pointer (some ⟨g, 0, none⟩), .slice F fs.length fc, .int .i64 lo, .int .i64 cd] 34)).alloc (.cells #[.slice A ts.length c, .slice F fs.length fc, .int .i64 lo, .int .i64 cd] 36)) := below_alloc' (below_alloc' (below_refl w2))
    have R34 := Lib.hid hrow.1
    have HB3 := Lib.hid (below_then HB2.out hB3)
    have HF3 := Lib.hid (HF2.out.below hB3)
    have HTB := Lib.hid (htab.tab.below hB3)
    have HTT := Lib.hid (htab.below hB3)
    have HTY := Lib.hid hty
    have R0c := Lib.hid ((hB3.block _ (Array.getElem?_eq_some_iff.1 R0b.out).1).trans R0b.out)
    have RIc := Lib.hid ((hB3.block _ (Array.getElem?_eq_some_iff.1 RIb.out).1).trans RIb.out)
    have hlt2 : w.heap.size + 1 < w2.heap.size := (Array.getElem?_eq_some_iff.1 RIb.out).1
    have HL2 := Lib.hid hlt2
    clear hrow hB3 hty htab HF2 HB2 R0b RIb hlt2
    have hp4 := parts_le4 HP.out a
    have HP4 := Lib.hid hp4
    clear hp4
    go_wp2_with fail
    generalize (w2.alloc (.cells #[.pointer (some ⟨g, 0, none⟩), .slice F fs.length fc, .int .i64 lo, .int .i64 cd] 34)).alloc (.cells #[.slice A ts.length c, .slice F fs.length fc, .int .i64 lo, .int .i64 cd] 36) = w3 at *
    have HA0 : Hid (∀ j, j < 0 → (fnAt fs (j : Nat)).params.length ≤ 16) := Lib.hid fun j h => absurd h (by omega)
    go_loopw [9] (fun t wr => ∃ k : Nat, k ≤ fs.length ∧ t = .int .i64 k ∧ Hid (∀ j, j < k → (fnAt fs (j : Nat)).params.length ≤ 16) ∧ Hid (w3 = wr)) (fun t _ => fs.length - (intOf t).toNat)
    case atStart => exact ⟨0, Nat.zero_le _, rfl, HA0, Lib.hid rfl⟩
    case round =>
      obtain ⟨k, hk, rfl, HA, HW⟩ := hrel
      obtain rfl := HW.out
      clear HW
      obtain ⟨e0, e1, e2, e3⟩ := cells4' R0c.out
      by_cases hlt : k < fs.length
      · obtain ⟨ad, A', c', rfl, g0, g1, g2, g3⟩ := HF3.out.get (k : Int) (by omega) (by omega)
        rw [Int.toNat_natCast] at g0 g1
        have hki : (k : Int) < (fs.length : Int) := by omega
        have HA1 : Hid ((fnAt fs (k : Nat)).params.length ≤ 16 → ∀ j, j < k + 1 → (fnAt fs (j : Nat)).params.length ≤ 16) := Lib.hid fun h j hj => by
          rcases Nat.lt_or_ge j k with h1 | h1
          · exact HA.out j h1
          · obtain rfl : j = k := by omega
            exact h
        generalize (fnAt fs (k : Int)).params.length = p at *
        clear g1 g2 g3
        by_cases hp16 : p ≤ 16
        · have HA2 := Lib.hid (HA1.out hp16)
          have hpi : ¬ (16 : Int) < (p : Int) := by omega
          clear hp16 HA1
          go_wp2_with fail
          go_roundw
          case rel => exact ⟨k + 1, by omega, by go_num, HA2, by first | exact Lib.hid rfl | exact Lib.hid trivial⟩
          case measure => simp [intOf]; omega
        · have hpi : (16 : Int) < (p : Int) := by omega
          clear hp16 HA1
          go_wp2_with fail
          go_ret
          exact ⟨rfl, HB3.out⟩
      · obtain rfl : k = fs.length := by omega
        have hfs : ∀ f ∈ fs, f.params.length ≤ 16 := fun f hf => by
          obtain ⟨j, hj, rfl⟩ := List.getElem_of_mem hf
          have := HA.out j hj
          unfold fnAt at this
          rw [List.getD_eq_getElem?_getD, Int.toNat_natCast, List.getElem?_eq_getElem hj] at this
          exact this
        have HFS := Lib.hid hfs
        obtain ⟨i0, i1, i2⟩ := cells3' RIc.out
        obtain ⟨s0, s1, s2, s3⟩ := cells4' R34.out
        have HR := Lib.hid (right_calls op a b g F fs.length fc lo cd (allOf ts) w3 HTB.out (by have := HP4.out; omega))
        have HFF := Lib.hid (fun W (h : Below w3.heap.size w3 W) => effect_calls op a b g F fc lo cd (allOf ts) fs W (HTB.out.below h) (HF3.out.below h) (by have := HP4.out; omega))
        clear hfs hlt hk HA
        cases hrt : rightR (rowOf op) (allOf ts) fs.length lo cd a b with
        | false =>
          have he : effB (rowOf op) (allOf ts) fs lo cd op a b = (0, 0) := by unfold effB; rw [hrt]; rfl
          rw [hrt] at HR
          rw [he] at HFF
          clear hrt he
          go_wp2_with fail
          refine HR.out.mono ?_
          rintro e w4 ⟨rfl, hb⟩
          obtain ⟨j0, j1, j2⟩ := cells3' ((hb.block _ (Array.getElem?_eq_some_iff.1 RIc.out).1).trans RIc.out)
          obtain ⟨t0, t1, t2, t3⟩ := cells4' ((hb.block _ (Array.getElem?_eq_some_iff.1 R34.out).1).trans R34.out)
          have HB4 := Lib.hid (below_then HB3.out hb)
          have HF4 := Lib.hid (HFF.out w4 hb)
          clear hb HR HFF
          go_wp2_with fail
          refine HF4.out.mono ?_
          rintro e w5 ⟨rfl, hb⟩
          have HB5 := Lib.hid (below_then HB4.out hb)
          clear hb HF4
          go_wp2_with fail
          go_ret
          exact ⟨rfl, HB5.out⟩
        | true =>
          have he : effB (rowOf op) (allOf ts) fs lo cd op a b = effR (rowOf op) (allOf ts) fs op a b := by unfold effB; rw [hrt]; rfl
          have hfine := eff_fine HTY.out HFS.out hrt
          have HRT := Lib.hid hrt
          rw [hrt] at HR
          rw [he] at HFF
          clear hrt he
          generalize (effR (rowOf op) (allOf ts) fs op a b).1 = tk at *
          generalize (effR (rowOf op) (allOf ts) fs op a b).2 = lv at *
          have HFN := Lib.hid hfine
          have hk1 : ¬ tk < 0 := by have := hfine.1; omega
          have hk2 : ¬ (20 : Int) < tk := by have := hfine.1; omega
          have hl1 : ¬ lv < 0 := by have := hfine.2.1; omega
          have hl2 : ¬ (2 : Int) < lv := by have := hfine.2.1; omega
          clear hfine
          go_wp2_with fail
          refine HR.out.mono ?_
          rintro e w4 ⟨rfl, hb⟩
          have RId := Lib.hid ((hb.block _ (Array.getElem?_eq_some_iff.1 RIc.out).1).trans RIc.out)
          have R34d := Lib.hid ((hb.block _ (Array.getElem?_eq_some_iff.1 R34.out).1).trans R34.out)
          obtain ⟨j0, j1, j2⟩ := cells3' RId.out
          obtain ⟨t0, t1, t2, t3⟩ := cells4' R34d.out
          have HB4 := Lib.hid (below_then HB3.out hb)
          have HF4 := Lib.hid (HFF.out w4 hb)
          have HTT4 := Lib.hid (HTT.out.below hb)
          clear hb HR HFF HTB HTT
          go_wp2_with fail
          refine HF4.out.mono ?_
          rintro e w5 ⟨rfl, hb⟩
          have RIe := Lib.hid ((hb.block _ (Array.getElem?_eq_some_iff.1 RId.out).1).trans RId.out)
          have R34e := Lib.hid ((hb.block _ (Array.getElem?_eq_some_iff.1 R34d.out).1).trans R34d.out)
          have HB5 := Lib.hid (below_then HB4.out hb)
          have HTT5 := Lib.hid (HTT4.out.below hb)
          clear hb HF4 HTT4 j0 j1 j2 t0 t1 t2 t3 i0 i1 i2 s0 s1 s2 s3 e0 e1 e2 e3 RIc R34 RId R34d
          obtain ⟨j0, j1, j2⟩ := cells3' RIe.out
          obtain ⟨t0, t1, t2, t3⟩ := cells4' R34e.out
          have fz := frozen_of_row w5 (w.heap.size + 1) 2 _ _ RIe.out
          have hr6 : (w5.setCell ⟨w.heap.size + 1, 2, none⟩ (.int .i64 (wrap64 (b + 1)))).heap[w.heap.size + 1]? = some (.cells #[.int .i64 op, .int .i64 a, .int .i64 (wrap64 (b + 1))] 27 (0, 0)) := by rw [heap_setCell_same _ _ _ _ _ _ RIe.out]; rfl
          have hne : w2.heap.size ≠ w.heap.size + 1 := by have := HL2.out; omega
          have hs6 := (heap_setCell_other w5 (⟨w.heap.size + 1, 2, none⟩ : Addr) w2.heap.size (.int .i64 (wrap64 (b + 1))) hne).trans R34e.out
          have HTT6 := Lib.hid (HTT5.out.set (p := ⟨w.heap.size + 1, 2, none⟩) (u := .int .i64 (wrap64 (b + 1))) RIe.out (by decide) (by decide) (by decide))
          have HB6 := Lib.hid (HB5.out.setCell (p := ⟨w.heap.size + 1, 2, none⟩) (Nat.le_succ _) (.int .i64 (wrap64 (b + 1))))
          have R6 := Lib.hid hr6
          have S6 := Lib.hid hs6
          clear hr6 hs6 RIe R34e HTT5 HB5
          have HEN := Lib.hid (endsI_calls op)
          have HMK := Lib.hid (makesI_calls op)
          have HCA := Lib.hid (callsI_calls op)
          have HFO := Lib.hid (formI_calls op)
          unfold IntPost at HFO
          cases hen : endsB op with
          | true =>
            obtain rfl := HFN.out.2.2.1 hen
            rw [(ends_not hen).1] at HMK
            rw [(ends_not hen).2] at HCA
            rw [hen] at HEN
            clear hen
            go_wp2_with (first | (go_at_call 47; refine (HEN.out _).mono ?_; rintro e w' ⟨rfl, rfl⟩) | (go_at_call 46; refine (HMK.out _).mono ?_; rintro e w' ⟨rfl, rfl⟩) | (go_at_call 48; refine (HCA.out _).mono ?_; rintro e w' ⟨rfl, rfl⟩))
            generalize w5.setCell ⟨w.heap.size + 1, 2, none⟩ (.int .i64 (wrap64 (b + 1))) = w6 at *
            clear HEN HMK HCA hk1 hk2 hl1 hl2 j0 j1 j2 t0 t1 t2 t3 fz
            refine (HFO.out _).mono ?_
            rintro e w7 ⟨rfl, hb⟩
            have R7 := Lib.hid ((hb.block _ (Array.getElem?_eq_some_iff.1 R6.out).1).trans R6.out)
            have S7 := Lib.hid ((hb.block _ (Array.getElem?_eq_some_iff.1 S6.out).1).trans S6.out)
            have HB7 := Lib.hid (below_then HB6.out hb)
            have HTT7 := Lib.hid (HTT6.out.below hb)
            clear hb R6 S6 HB6 HTT6
            by_cases hf7 : (rowOf op).form = 7
            · have HZ := Lib.hid (right_bm (ts := allOf ts) (nf := fs.length) (lo := lo) (cd := cd) (a := a) (.inl hf7))
              have hq : ((rowOf op).form != 7) = false := by rw [hf7]; rfl
              clear hf7
              generalize (rowOf op).form = fm at *
              obtain ⟨j0, j1, j2⟩ := cells3' R7.out
              have fz := frozen_of_row w7 (w.heap.size + 1) 2 _ _ R7.out
              have hr6 : (w7.setCell ⟨w.heap.size + 1, 2, none⟩ (.int .i64 (-1))).heap[w.heap.size + 1]? = some (.cells #[.int .i64 op, .int .i64 a, .int .i64 (-1)] 27 (0, 0)) := by rw [heap_setCell_same _ _ _ _ _ _ R7.out]; rfl
              have hs6 := (heap_setCell_other w7 (⟨w.heap.size + 1, 2, none⟩ : Addr) w2.heap.size (.int .i64 (-1)) hne).trans S7.out
              have htt := HTT7.out.set (p := ⟨w.heap.size + 1, 2, none⟩) (u := .int .i64 (-1)) R7.out (by decide) (by decide) (by decide)
              have HBx := Lib.hid (HB7.out.setCell (p := ⟨w.heap.size + 1, 2, none⟩) (Nat.le_succ _) (.int .i64 (-1)))
              have HR := Lib.hid (right_calls op a (-1) g F fs.length fc lo cd (allOf ts) (w7.setCell ⟨w.heap.size + 1, 2, none⟩ (.int .i64 (-1))) htt.tab (by have := HP4.out; omega))
              rw [HZ.out] at HR
              obtain ⟨x0, x1, x2⟩ := cells3' hr6
              obtain ⟨t0, t1, t2, t3⟩ := cells4' hs6
              clear hr6 hs6 htt R7 S7 HB7 HTT7
              go_wp2_with fail
              refine HR.out.mono ?_
              rintro e w8 ⟨rfl, hb⟩
              have HBz := Lib.hid (below_then HBx.out hb)
              clear hb HR
              go_wp2_with fail
              go_ret
              exact ⟨rfl, HBz.out⟩
            · have hq : ((rowOf op).form != 7) = true := bne_iff_ne.2 hf7
              obtain ⟨j0, j1, j2⟩ := cells3' R7.out
              by_cases hf8 : (rowOf op).form = 8
              · have HZ := Lib.hid (right_bm (ts := allOf ts) (nf := fs.length) (lo := lo) (cd := cd) (a := a) (.inr hf8))
                have hq8 : ((rowOf op).form != 8) = false := by rw [hf8]; rfl
                clear hf7 hf8
                generalize (rowOf op).form = fm at *
                go_wp2_with fail
                refine (HFO.out _).mono ?_
                rintro e w8 ⟨rfl, hb⟩
                have R8 := Lib.hid ((hb.block _ (Array.getElem?_eq_some_iff.1 R7.out).1).trans R7.out)
                have S8 := Lib.hid ((hb.block _ (Array.getElem?_eq_some_iff.1 S7.out).1).trans S7.out)
                have HB8 := Lib.hid (below_then HB7.out hb)
                have HTT8 := Lib.hid (HTT7.out.below hb)
                clear hb R7 S7 HB7 HTT7 j0 j1 j2
                obtain ⟨j0, j1, j2⟩ := cells3' R8.out
                have fz := frozen_of_row w8 (w.heap.size + 1) 2 _ _ R8.out
                have hr6 : (w8.setCell ⟨w.heap.size + 1, 2, none⟩ (.int .i64 (-1))).heap[w.heap.size + 1]? = some (.cells #[.int .i64 op, .int .i64 a, .int .i64 (-1)] 27 (0, 0)) := by rw [heap_setCell_same _ _ _ _ _ _ R8.out]; rfl
                have hs6 := (heap_setCell_other w8 (⟨w.heap.size + 1, 2, none⟩ : Addr) w2.heap.size (.int .i64 (-1)) hne).trans S8.out
                have htt := HTT8.out.set (p := ⟨w.heap.size + 1, 2, none⟩) (u := .int .i64 (-1)) R8.out (by decide) (by decide) (by decide)
                have HBx := Lib.hid (HB8.out.setCell (p := ⟨w.heap.size + 1, 2, none⟩) (Nat.le_succ _) (.int .i64 (-1)))
                have HR := Lib.hid (right_calls op a (-1) g F fs.length fc lo cd (allOf ts) (w8.setCell ⟨w.heap.size + 1, 2, none⟩ (.int .i64 (-1))) htt.tab (by have := HP4.out; omega))
                rw [HZ.out] at HR
                obtain ⟨x0, x1, x2⟩ := cells3' hr6
                obtain ⟨t0, t1, t2, t3⟩ := cells4' hs6
                clear hr6 hs6 htt R8 S8 HB8 HTT8
                go_wp2_with fail
                refine HR.out.mono ?_
                rintro e w9 ⟨rfl, hb⟩
                have HBz := Lib.hid (below_then HBx.out hb)
                clear hb HR
                go_wp2_with fail
                go_ret
                exact ⟨rfl, HBz.out⟩
              · have hq8 : ((rowOf op).form != 8) = true := bne_iff_ne.2 hf8
                have htw : twoB (rowOf op).form = false := by simp [twoB, hf7, hf8]
                have h01 := right_b1 htw HRT.out
                have HZ := Lib.hid h01.2
                obtain rfl := h01.1
                clear hf7 hf8 htw h01
                have e1 : wrap64 (0 + 1) = 1 := by unfold wrap64; omega
                rw [e1] at R7 j2
                generalize (rowOf op).form = fm at *
                go_wp2_with fail
                refine (HFO.out _).mono ?_
                rintro e w8 ⟨rfl, hb⟩
                obtain ⟨j0, j1, j2⟩ := cells3' ((hb.block _ (Array.getElem?_eq_some_iff.1 R7.out).1).trans R7.out)
                obtain ⟨t0, t1, t2, t3⟩ := cells4' ((hb.block _ (Array.getElem?_eq_some_iff.1 S7.out).1).trans S7.out)
                have HB8 := Lib.hid (below_then HB7.out hb)
                have HR := Lib.hid (right_calls op a 1 g F fs.length fc lo cd (allOf ts) w8 (HTT7.out.below hb).tab (by have := HP4.out; omega))
                rw [HZ.out] at HR
                clear hb R7 S7 HB7 HTT7
                go_wp2_with fail
                refine HR.out.mono ?_
                rintro e w9 ⟨rfl, hb⟩
                have HB9 := Lib.hid (below_then HB8.out hb)
                clear hb HR
                go_wp2_with fail
                go_ret
                exact ⟨rfl, HB9.out⟩
          | false =>
            rw [hen] at HEN
            clear hen
            cases hmk : makesB op with
            | true =>
              obtain rfl := HFN.out.2.2.2 (.inl hmk)
              rw [hmk] at HMK
              clear hmk
              go_wp2_with (first | (go_at_call 47; refine (HEN.out _).mono ?_; rintro e w' ⟨rfl, rfl⟩) | (go_at_call 46; refine (HMK.out _).mono ?_; rintro e w' ⟨rfl, rfl⟩) | (go_at_call 48; refine (HCA.out _).mono ?_; rintro e w' ⟨rfl, rfl⟩))
              generalize w5.setCell ⟨w.heap.size + 1, 2, none⟩ (.int .i64 (wrap64 (b + 1))) = w6 at *
              clear HEN HMK HCA hk1 hk2 hl1 hl2 j0 j1 j2 t0 t1 t2 t3 fz
              refine (HFO.out _).mono ?_
              rintro e w7 ⟨rfl, hb⟩
              have R7 := Lib.hid ((hb.block _ (Array.getElem?_eq_some_iff.1 R6.out).1).trans R6.out)
              have S7 := Lib.hid ((hb.block _ (Array.getElem?_eq_some_iff.1 S6.out).1).trans S6.out)
              have HB7 := Lib.hid (below_then HB6.out hb)
              have HTT7 := Lib.hid (HTT6.out.below hb)
              clear hb R6 S6 HB6 HTT6
              by_cases hf7 : (rowOf op).form = 7
              · have HZ := Lib.hid (right_bm (ts := allOf ts) (nf := fs.length) (lo := lo) (cd := cd) (a := a) (.inl hf7))
                have hq : ((rowOf op).form != 7) = false := by rw [hf7]; rfl
                clear hf7
                generalize (rowOf op).form = fm at *
                obtain ⟨j0, j1, j2⟩ := cells3' R7.out
                have fz := frozen_of_row w7 (w.heap.size + 1) 2 _ _ R7.out
                have hr6 : (w7.setCell ⟨w.heap.size + 1, 2, none⟩ (.int .i64 (-1))).heap[w.heap.size + 1]? = some (.cells #[.int .i64 op, .int .i64 a, .int .i64 (-1)] 27 (0, 0)) := by rw [heap_setCell_same _ _ _ _ _ _ R7.out]; rfl
                have hs6 := (heap_setCell_other w7 (⟨w.heap.size + 1, 2, none⟩ : Addr) w2.heap.size (.int .i64 (-1)) hne).trans S7.out
                have htt := HTT7.out.set (p := ⟨w.heap.size + 1, 2, none⟩) (u := .int .i64 (-1)) R7.out (by decide) (by decide) (by decide)
                have HBx := Lib.hid (HB7.out.setCell (p := ⟨w.heap.size + 1, 2, none⟩) (Nat.le_succ _) (.int .i64 (-1)))
                have HR := Lib.hid (right_calls op a (-1) g F fs.length fc lo cd (allOf ts) (w7.setCell ⟨w.heap.size + 1, 2, none⟩ (.int .i64 (-1))) htt.tab (by have := HP4.out; omega))
                rw [HZ.out] at HR
                obtain ⟨x0, x1, x2⟩ := cells3' hr6
                obtain ⟨t0, t1, t2, t3⟩ := cells4' hs6
                clear hr6 hs6 htt R7 S7 HB7 HTT7
                go_wp2_with fail
                refine HR.out.mono ?_
                rintro e w8 ⟨rfl, hb⟩
                have HBz := Lib.hid (below_then HBx.out hb)
                clear hb HR
                go_wp2_with fail
                go_ret
                exact ⟨rfl, HBz.out⟩
              · have hq : ((rowOf op).form != 7) = true := bne_iff_ne.2 hf7
                obtain ⟨j0, j1, j2⟩ := cells3' R7.out
                by_cases hf8 : (rowOf op).form = 8
                · have HZ := Lib.hid (right_bm (ts := allOf ts) (nf := fs.length) (lo := lo) (cd := cd) (a := a) (.inr hf8))
                  have hq8 : ((rowOf op).form != 8) = false := by rw [hf8]; rfl
                  clear hf7 hf8
                  generalize (rowOf op).form = fm at *
                  go_wp2_with fail
                  refine (HFO.out _).mono ?_
                  rintro e w8 ⟨rfl, hb⟩
                  have R8 := Lib.hid ((hb.block _ (Array.getElem?_eq_some_iff.1 R7.out).1).trans R7.out)
                  have S8 := Lib.hid ((hb.block _ (Array.getElem?_eq_some_iff.1 S7.out).1).trans S7.out)
                  have HB8 := Lib.hid (below_then HB7.out hb)
                  have HTT8 := Lib.hid (HTT7.out.below hb)
                  clear hb R7 S7 HB7 HTT7 j0 j1 j2
                  obtain ⟨j0, j1, j2⟩ := cells3' R8.out
                  have fz := frozen_of_row w8 (w.heap.size + 1) 2 _ _ R8.out
                  have hr6 : (w8.setCell ⟨w.heap.size + 1, 2, none⟩ (.int .i64 (-1))).heap[w.heap.size + 1]? = some (.cells #[.int .i64 op, .int .i64 a, .int .i64 (-1)] 27 (0, 0)) := by rw [heap_setCell_same _ _ _ _ _ _ R8.out]; rfl
                  have hs6 := (heap_setCell_other w8 (⟨w.heap.size + 1, 2, none⟩ : Addr) w2.heap.size (.int .i64 (-1)) hne).trans S8.out
                  have htt := HTT8.out.set (p := ⟨w.heap.size + 1, 2, none⟩) (u := .int .i64 (-1)) R8.out (by decide) (by decide) (by decide)
                  have HBx := Lib.hid (HB8.out.setCell (p := ⟨w.heap.size + 1, 2, none⟩) (Nat.le_succ _) (.int .i64 (-1)))
                  have HR := Lib.hid (right_calls op a (-1) g F fs.length fc lo cd (allOf ts) (w8.setCell ⟨w.heap.size + 1, 2, none⟩ (.int .i64 (-1))) htt.tab (by have := HP4.out; omega))
                  rw [HZ.out] at HR
                  obtain ⟨x0, x1, x2⟩ := cells3' hr6
                  obtain ⟨t0, t1, t2, t3⟩ := cells4' hs6
                  clear hr6 hs6 htt R8 S8 HB8 HTT8
                  go_wp2_with fail
                  refine HR.out.mono ?_
                  rintro e w9 ⟨rfl, hb⟩
                  have HBz := Lib.hid (below_then HBx.out hb)
                  clear hb HR
                  go_wp2_with fail
                  go_ret
                  exact ⟨rfl, HBz.out⟩
                · have hq8 : ((rowOf op).form != 8) = true := bne_iff_ne.2 hf8
                  have htw : twoB (rowOf op).form = false := by simp [twoB, hf7, hf8]
                  have h01 := right_b1 htw HRT.out
                  have HZ := Lib.hid h01.2
                  obtain rfl := h01.1
                  clear hf7 hf8 htw h01
                  have e1 : wrap64 (0 + 1) = 1 := by unfold wrap64; omega
                  rw [e1] at R7 j2
                  generalize (rowOf op).form = fm at *
                  go_wp2_with fail
                  refine (HFO.out _).mono ?_
                  rintro e w8 ⟨rfl, hb⟩
                  obtain ⟨j0, j1, j2⟩ := cells3' ((hb.block _ (Array.getElem?_eq_some_iff.1 R7.out).1).trans R7.out)
                  obtain ⟨t0, t1, t2, t3⟩ := cells4' ((hb.block _ (Array.getElem?_eq_some_iff.1 S7.out).1).trans S7.out)
                  have HB8 := Lib.hid (below_then HB7.out hb)
                  have HR := Lib.hid (right_calls op a 1 g F fs.length fc lo cd (allOf ts) w8 (HTT7.out.below hb).tab (by have := HP4.out; omega))
                  rw [HZ.out] at HR
                  clear hb R7 S7 HB7 HTT7
                  go_wp2_with fail
                  refine HR.out.mono ?_
                  rintro e w9 ⟨rfl, hb⟩
                  have HB9 := Lib.hid (below_then HB8.out hb)
                  clear hb HR
                  go_wp2_with fail
                  go_ret
                  exact ⟨rfl, HB9.out⟩
            | false =>
              rw [hmk] at HMK
              clear hmk
              cases hca : callsB op with
              | true =>
                obtain rfl := HFN.out.2.2.2 (.inr hca)
                rw [hca] at HCA
                clear hca
                go_wp2_with (first | (go_at_call 47; refine (HEN.out _).mono ?_; rintro e w' ⟨rfl, rfl⟩) | (go_at_call 46; refine (HMK.out _).mono ?_; rintro e w' ⟨rfl, rfl⟩) | (go_at_call 48; refine (HCA.out _).mono ?_; rintro e w' ⟨rfl, rfl⟩))
                generalize w5.setCell ⟨w.heap.size + 1, 2, none⟩ (.int .i64 (wrap64 (b + 1))) = w6 at *
                clear HEN HMK HCA hk1 hk2 hl1 hl2 j0 j1 j2 t0 t1 t2 t3 fz
                refine (HFO.out _).mono ?_
                rintro e w7 ⟨rfl, hb⟩
                have R7 := Lib.hid ((hb.block _ (Array.getElem?_eq_some_iff.1 R6.out).1).trans R6.out)
                have S7 := Lib.hid ((hb.block _ (Array.getElem?_eq_some_iff.1 S6.out).1).trans S6.out)
                have HB7 := Lib.hid (below_then HB6.out hb)
                have HTT7 := Lib.hid (HTT6.out.below hb)
                clear hb R6 S6 HB6 HTT6
                by_cases hf7 : (rowOf op).form = 7
                · have HZ := Lib.hid (right_bm (ts := allOf ts) (nf := fs.length) (lo := lo) (cd := cd) (a := a) (.inl hf7))
                  have hq : ((rowOf op).form != 7) = false := by rw [hf7]; rfl
                  clear hf7
                  generalize (rowOf op).form = fm at *
                  obtain ⟨j0, j1, j2⟩ := cells3' R7.out
                  have fz := frozen_of_row w7 (w.heap.size + 1) 2 _ _ R7.out
                  have hr6 : (w7.setCell ⟨w.heap.size + 1, 2, none⟩ (.int .i64 (-1))).heap[w.heap.size + 1]? = some (.cells #[.int .i64 op, .int .i64 a, .int .i64 (-1)] 27 (0, 0)) := by rw [heap_setCell_same _ _ _ _ _ _ R7.out]; rfl
                  have hs6 := (heap_setCell_other w7 (⟨w.heap.size + 1, 2, none⟩ : Addr) w2.heap.size (.int .i64 (-1)) hne).trans S7.out
                  have htt := HTT7.out.set (p := ⟨w.heap.size + 1, 2, none⟩) (u := .int .i64 (-1)) R7.out (by decide) (by decide) (by decide)
                  have HBx := Lib.hid (HB7.out.setCell (p := ⟨w.heap.size + 1, 2, none⟩) (Nat.le_succ _) (.int .i64 (-1)))
                  have HR := Lib.hid (right_calls op a (-1) g F fs.length fc lo cd (allOf ts) (w7.setCell ⟨w.heap.size + 1, 2, none⟩ (.int .i64 (-1))) htt.tab (by have := HP4.out; omega))
                  rw [HZ.out] at HR
                  obtain ⟨x0, x1, x2⟩ := cells3' hr6
                  obtain ⟨t0, t1, t2, t3⟩ := cells4' hs6
                  clear hr6 hs6 htt R7 S7 HB7 HTT7
                  go_wp2_with fail
                  refine HR.out.mono ?_
                  rintro e w8 ⟨rfl, hb⟩
                  have HBz := Lib.hid (below_then HBx.out hb)
                  clear hb HR
                  go_wp2_with fail
                  go_ret
                  exact ⟨rfl, HBz.out⟩
                · have hq : ((rowOf op).form != 7) = true := bne_iff_ne.2 hf7
                  obtain ⟨j0, j1, j2⟩ := cells3' R7.out
                  by_cases hf8 : (rowOf op).form = 8
                  · have HZ := Lib.hid (right_bm (ts := allOf ts) (nf := fs.length) (lo := lo) (cd := cd) (a := a) (.inr hf8))
                    have hq8 : ((rowOf op).form != 8) = false := by rw [hf8]; rfl
                    clear hf7 hf8
                    generalize (rowOf op).form = fm at *
                    go_wp2_with fail
                    refine (HFO.out _).mono ?_
                    rintro e w8 ⟨rfl, hb⟩
                    have R8 := Lib.hid ((hb.block _ (Array.getElem?_eq_some_iff.1 R7.out).1).trans R7.out)
                    have S8 := Lib.hid ((hb.block _ (Array.getElem?_eq_some_iff.1 S7.out).1).trans S7.out)
                    have HB8 := Lib.hid (below_then HB7.out hb)
                    have HTT8 := Lib.hid (HTT7.out.below hb)
                    clear hb R7 S7 HB7 HTT7 j0 j1 j2
                    obtain ⟨j0, j1, j2⟩ := cells3' R8.out
                    have fz := frozen_of_row w8 (w.heap.size + 1) 2 _ _ R8.out
                    have hr6 : (w8.setCell ⟨w.heap.size + 1, 2, none⟩ (.int .i64 (-1))).heap[w.heap.size + 1]? = some (.cells #[.int .i64 op, .int .i64 a, .int .i64 (-1)] 27 (0, 0)) := by rw [heap_setCell_same _ _ _ _ _ _ R8.out]; rfl
                    have hs6 := (heap_setCell_other w8 (⟨w.heap.size + 1, 2, none⟩ : Addr) w2.heap.size (.int .i64 (-1)) hne).trans S8.out
                    have htt := HTT8.out.set (p := ⟨w.heap.size + 1, 2, none⟩) (u := .int .i64 (-1)) R8.out (by decide) (by decide) (by decide)
                    have HBx := Lib.hid (HB8.out.setCell (p := ⟨w.heap.size + 1, 2, none⟩) (Nat.le_succ _) (.int .i64 (-1)))
                    have HR := Lib.hid (right_calls op a (-1) g F fs.length fc lo cd (allOf ts) (w8.setCell ⟨w.heap.size + 1, 2, none⟩ (.int .i64 (-1))) htt.tab (by have := HP4.out; omega))
                    rw [HZ.out] at HR
                    obtain ⟨x0, x1, x2⟩ := cells3' hr6
                    obtain ⟨t0, t1, t2, t3⟩ := cells4' hs6
                    clear hr6 hs6 htt R8 S8 HB8 HTT8
                    go_wp2_with fail
                    refine HR.out.mono ?_
                    rintro e w9 ⟨rfl, hb⟩
                    have HBz := Lib.hid (below_then HBx.out hb)
                    clear hb HR
                    go_wp2_with fail
                    go_ret
                    exact ⟨rfl, HBz.out⟩
                  · have hq8 : ((rowOf op).form != 8) = true := bne_iff_ne.2 hf8
                    have htw : twoB (rowOf op).form = false := by simp [twoB, hf7, hf8]
                    have h01 := right_b1 htw HRT.out
                    have HZ := Lib.hid h01.2
                    obtain rfl := h01.1
                    clear hf7 hf8 htw h01
                    have e1 : wrap64 (0 + 1) = 1 := by unfold wrap64; omega
                    rw [e1] at R7 j2
                    generalize (rowOf op).form = fm at *
                    go_wp2_with fail
                    refine (HFO.out _).mono ?_
                    rintro e w8 ⟨rfl, hb⟩
                    obtain ⟨j0, j1, j2⟩ := cells3' ((hb.block _ (Array.getElem?_eq_some_iff.1 R7.out).1).trans R7.out)
                    obtain ⟨t0, t1, t2, t3⟩ := cells4' ((hb.block _ (Array.getElem?_eq_some_iff.1 S7.out).1).trans S7.out)
                    have HB8 := Lib.hid (below_then HB7.out hb)
                    have HR := Lib.hid (right_calls op a 1 g F fs.length fc lo cd (allOf ts) w8 (HTT7.out.below hb).tab (by have := HP4.out; omega))
                    rw [HZ.out] at HR
                    clear hb R7 S7 HB7 HTT7
                    go_wp2_with fail
                    refine HR.out.mono ?_
                    rintro e w9 ⟨rfl, hb⟩
                    have HB9 := Lib.hid (below_then HB8.out hb)
                    clear hb HR
                    go_wp2_with fail
                    go_ret
                    exact ⟨rfl, HB9.out⟩
              | false =>
                rw [hca] at HCA
                clear hca
                go_wp2_with (first | (go_at_call 47; refine (HEN.out _).mono ?_; rintro e w' ⟨rfl, rfl⟩) | (go_at_call 46; refine (HMK.out _).mono ?_; rintro e w' ⟨rfl, rfl⟩) | (go_at_call 48; refine (HCA.out _).mono ?_; rintro e w' ⟨rfl, rfl⟩))
                generalize w5.setCell ⟨w.heap.size + 1, 2, none⟩ (.int .i64 (wrap64 (b + 1))) = w6 at *
                clear HEN HMK HCA hk1 hk2 hl1 hl2 j0 j1 j2 t0 t1 t2 t3 fz
                refine (HFO.out _).mono ?_
                rintro e w7 ⟨rfl, hb⟩
                have R7 := Lib.hid ((hb.block _ (Array.getElem?_eq_some_iff.1 R6.out).1).trans R6.out)
                have S7 := Lib.hid ((hb.block _ (Array.getElem?_eq_some_iff.1 S6.out).1).trans S6.out)
                have HB7 := Lib.hid (below_then HB6.out hb)
                have HTT7 := Lib.hid (HTT6.out.below hb)
                clear hb R6 S6 HB6 HTT6
                by_cases hf7 : (rowOf op).form = 7
                · have HZ := Lib.hid (right_bm (ts := allOf ts) (nf := fs.length) (lo := lo) (cd := cd) (a := a) (.inl hf7))
                  have hq : ((rowOf op).form != 7) = false := by rw [hf7]; rfl
                  clear hf7
                  generalize (rowOf op).form = fm at *
                  obtain ⟨j0, j1, j2⟩ := cells3' R7.out
                  have fz := frozen_of_row w7 (w.heap.size + 1) 2 _ _ R7.out
                  have hr6 : (w7.setCell ⟨w.heap.size + 1, 2, none⟩ (.int .i64 (-1))).heap[w.heap.size + 1]? = some (.cells #[.int .i64 op, .int .i64 a, .int .i64 (-1)] 27 (0, 0)) := by rw [heap_setCell_same _ _ _ _ _ _ R7.out]; rfl
                  have hs6 := (heap_setCell_other w7 (⟨w.heap.size + 1, 2, none⟩ : Addr) w2.heap.size (.int .i64 (-1)) hne).trans S7.out
                  have htt := HTT7.out.set (p := ⟨w.heap.size + 1, 2, none⟩) (u := .int .i64 (-1)) R7.out (by decide) (by decide) (by decide)
                  have HBx := Lib.hid (HB7.out.setCell (p := ⟨w.heap.size + 1, 2, none⟩) (Nat.le_succ _) (.int .i64 (-1)))
                  have HR := Lib.hid (right_calls op a (-1) g F fs.length fc lo cd (allOf ts) (w7.setCell ⟨w.heap.size + 1, 2, none⟩ (.int .i64 (-1))) htt.tab (by have := HP4.out; omega))
                  rw [HZ.out] at HR
                  obtain ⟨x0, x1, x2⟩ := cells3' hr6
                  obtain ⟨t0, t1, t2, t3⟩ := cells4' hs6
                  clear hr6 hs6 htt R7 S7 HB7 HTT7
                  go_wp2_with fail
                  refine HR.out.mono ?_
                  rintro e w8 ⟨rfl, hb⟩
                  have HBz := Lib.hid (below_then HBx.out hb)
                  clear hb HR
                  go_wp2_with fail
                  go_ret
                  exact ⟨rfl, HBz.out⟩
                · have hq : ((rowOf op).form != 7) = true := bne_iff_ne.2 hf7
                  obtain ⟨j0, j1, j2⟩ := cells3' R7.out
                  by_cases hf8 : (rowOf op).form = 8
                  · have HZ := Lib.hid (right_bm (ts := allOf ts) (nf := fs.length) (lo := lo) (cd := cd) (a := a) (.inr hf8))
                    have hq8 : ((rowOf op).form != 8) = false := by rw [hf8]; rfl
                    clear hf7 hf8
                    generalize (rowOf op).form = fm at *
                    go_wp2_with fail
                    refine (HFO.out _).mono ?_
                    rintro e w8 ⟨rfl, hb⟩
                    have R8 := Lib.hid ((hb.block _ (Array.getElem?_eq_some_iff.1 R7.out).1).trans R7.out)
                    have S8 := Lib.hid ((hb.block _ (Array.getElem?_eq_some_iff.1 S7.out).1).trans S7.out)
                    have HB8 := Lib.hid (below_then HB7.out hb)
                    have HTT8 := Lib.hid (HTT7.out.below hb)
                    clear hb R7 S7 HB7 HTT7 j0 j1 j2
                    obtain ⟨j0, j1, j2⟩ := cells3' R8.out
                    have fz := frozen_of_row w8 (w.heap.size + 1) 2 _ _ R8.out
                    have hr6 : (w8.setCell ⟨w.heap.size + 1, 2, none⟩ (.int .i64 (-1))).heap[w.heap.size + 1]? = some (.cells #[.int .i64 op, .int .i64 a, .int .i64 (-1)] 27 (0, 0)) := by rw [heap_setCell_same _ _ _ _ _ _ R8.out]; rfl
                    have hs6 := (heap_setCell_other w8 (⟨w.heap.size + 1, 2, none⟩ : Addr) w2.heap.size (.int .i64 (-1)) hne).trans S8.out
                    have htt := HTT8.out.set (p := ⟨w.heap.size + 1, 2, none⟩) (u := .int .i64 (-1)) R8.out (by decide) (by decide) (by decide)
                    have HBx := Lib.hid (HB8.out.setCell (p := ⟨w.heap.size + 1, 2, none⟩) (Nat.le_succ _) (.int .i64 (-1)))
                    have HR := Lib.hid (right_calls op a (-1) g F fs.length fc lo cd (allOf ts) (w8.setCell ⟨w.heap.size + 1, 2, none⟩ (.int .i64 (-1))) htt.tab (by have := HP4.out; omega))
                    rw [HZ.out] at HR
                    obtain ⟨x0, x1, x2⟩ := cells3' hr6
                    obtain ⟨t0, t1, t2, t3⟩ := cells4' hs6
                    clear hr6 hs6 htt R8 S8 HB8 HTT8
                    go_wp2_with fail
                    refine HR.out.mono ?_
                    rintro e w9 ⟨rfl, hb⟩
                    have HBz := Lib.hid (below_then HBx.out hb)
                    clear hb HR
                    go_wp2_with fail
                    go_ret
                    exact ⟨rfl, HBz.out⟩
                  · have hq8 : ((rowOf op).form != 8) = true := bne_iff_ne.2 hf8
                    have htw : twoB (rowOf op).form = false := by simp [twoB, hf7, hf8]
                    have h01 := right_b1 htw HRT.out
                    have HZ := Lib.hid h01.2
                    obtain rfl := h01.1
                    clear hf7 hf8 htw h01
                    have e1 : wrap64 (0 + 1) = 1 := by unfold wrap64; omega
                    rw [e1] at R7 j2
                    generalize (rowOf op).form = fm at *
                    go_wp2_with fail
                    refine (HFO.out _).mono ?_
                    rintro e w8 ⟨rfl, hb⟩
                    obtain ⟨j0, j1, j2⟩ := cells3' ((hb.block _ (Array.getElem?_eq_some_iff.1 R7.out).1).trans R7.out)
                    obtain ⟨t0, t1, t2, t3⟩ := cells4' ((hb.block _ (Array.getElem?_eq_some_iff.1 S7.out).1).trans S7.out)
                    have HB8 := Lib.hid (below_then HB7.out hb)
                    have HR := Lib.hid (right_calls op a 1 g F fs.length fc lo cd (allOf ts) w8 (HTT7.out.below hb).tab (by have := HP4.out; omega))
                    rw [HZ.out] at HR
                    clear hb R7 S7 HB7 HTT7
                    go_wp2_with fail
                    refine HR.out.mono ?_
                    rintro e w9 ⟨rfl, hb⟩
                    have HB9 := Lib.hid (below_then HB8.out hb)
                    clear hb HR
                    go_wp2_with fail
                    go_ret
                    exact ⟨rfl, HB9.out⟩
end Go.Proofs.YtdilmfnijkjiaaaDoor.K
