import Derived.Test.YtdilmfnijkjiaaaDoorK14
set_option maxRecDepth 100000
set_option linter.unusedSimpArgs false
set_option linter.unusedVariables false
namespace Go.Proofs.YtdilmfnijkjiaaaDoor.K
open Go.RowKit
def needErr (need got : Int) : Int := if need = -1 then 0 else if got = -1 then 15 else if need ≠ -2 ∧ need ≠ got then 16 else 0
def stepErr (p : Int × Int) (e : Int) : Int := if e = 0 then needErr p.1 p.2 else e
def takeErr (err : Int) (ns gs : List Int) : Int := (ns.zip gs).foldr stepErr err
theorem stepErr_zero {p : Int × Int} (h : needErr p.1 p.2 = 0) (e : Int) : stepErr p e = e := by unfold stepErr; split <;> simp_all
theorem foldr_drop (l : List (Int × Int)) (k : Nat) (hk : k < l.length) (err : Int) : (l.drop k).foldr stepErr err = stepErr l[k] ((l.drop (k + 1)).foldr stepErr err) := by
  rw [List.drop_eq_getElem_cons hk, List.foldr_cons]
/-- xs[n:] of a slice of ints. -/
theorem drop_run (A : Option Addr) (len cap n : Nat) (h : n ≤ len) (hc : len ≤ cap) :
    ∃ A', (∀ w, (Instr.slice 28 (.slice A len cap) (some (.int .i64 (n : Int))) none none).run Tryd.prog w = .ok (.slice A' (len - n) (cap - n)) w) ∧ (∀ w xs, xs.length = len → IntSl w A cap xs → IntSl w A' (cap - n) (xs.drop n)) := by
  obtain ⟨i, hi, hz, hs, hb⟩ := info_parts info3
  have hu : Tryd.prog.underlying 28 = some (.slice (Tryd.prog.elem 28)) := by kernel_rfl
  have he : Tryd.prog.elem 28 = 3 := by kernel_rfl
  have hsz : ∀ w, (sizeOf (Tryd.prog.elem 28)).run Tryd.prog w = .ok 1 w := fun w => by rw [he]; simp [sizeOf, typeInfo, hi, hs]
  refine ⟨if cap = n then A else A.map (·.add (n * 1)), fun w => ?_, fun w xs hl hx => ?_⟩
  · rw [run_slice_l w 28 A len cap hu .i64 n (by omega) (by omega), hsz]
    simp [Result.andThen, sliced]
  · refine ⟨by simp; have := hx.1; omega, by have := hx.2.1; omega, fun e => ?_, fun ad e j x hj => ?_⟩
    · split at e
      · have := hx.2.2.1 e; omega
      · cases A with
        | none => have := hx.2.2.1 rfl; omega
        | some a => simp at e
    · rw [List.getElem?_drop] at hj
      split at e
      · have := (List.getElem?_eq_some_iff.1 hj).1
        have := hx.1
        omega
      · cases A with
        | none => simp at e
        | some a =>
          simp only [Option.map_some, Option.some.injEq, Nat.mul_one] at e
          subst e
          have := hx.2.2.2 a rfl (n + j) x hj
          rwa [show (a.add n).add j = a.add (n + j) by unfold Addr.add; split <;> split <;> simp_all; omega]
theorem take_run (A : Option Addr) (len cap n : Nat) (h : n ≤ cap) (w : World) : (Instr.slice 28 (.slice A len cap) none (some (.int .i64 (n : Int))) none).run Tryd.prog w = .ok (.slice A n cap) w := by
  obtain ⟨i, hi, hz, hs, hb⟩ := info_parts info3
  have hu : Tryd.prog.underlying 28 = some (.slice (Tryd.prog.elem 28)) := by kernel_rfl
  have he : Tryd.prog.elem 28 = 3 := by kernel_rfl
  have hsz : ∀ w, (sizeOf (Tryd.prog.elem 28)).run Tryd.prog w = .ok 1 w := fun w => by rw [he]; simp [sizeOf, typeInfo, hi, hs]
  rw [run_slice_h w 28 A len cap hu .i64 n (by omega) (by omega), hsz]
  cases A <;> simp [Result.andThen, sliced, Addr.add]
theorem OwnInts.take {w : World} {base : Nat} {A : Option Addr} {len cap : Nat} {xs : List Int} (h : OwnInts w base (.slice A len cap) xs) (n : Nat) (hn : n ≤ xs.length) : OwnInts w base (.slice A n cap) (xs.take n) := by
  obtain ⟨h1, h2⟩ := h
  have hlen : (xs.take n).length = n := by simp; omega
  refine ⟨by simp [nums], ?_⟩
  rcases h2 with ⟨hv, h0⟩ | ⟨g, cap', cur, hv, hb, hg, hl, hm, hs, ht⟩
  · left
    injection hv with e1 e2 e3
    subst e1 e3
    refine ⟨?_, by omega⟩
    rw [show n = 0 by omega]
  · right
    injection hv with e1 e2 e3
    subst e1 e3
    refine ⟨g, cap, cur, by rw [hlen], hb, hg, by omega, hm, hs, ?_⟩
    rw [hlen, Nat.mul_one]
    have : cur.toList.take n = (cur.toList.take (xs.length * 1)).take n := by rw [List.take_take]; congr 1; omega
    rw [this, ht]
    simp [nums, List.map_take]
theorem OwnInts.less {w : World} {base s : Nat} {v : Value} {xs : List Int} (h : OwnInts w base v xs) {cs : Array Value} {e : TypeId} {fr : Nat × Nat} (hs : w.heap[s]? = some (.cells cs e fr)) (he : e ≠ 3) : ∃ A c, v = .slice A xs.length c ∧ IntSl (K.less w s) A c xs := by
  obtain ⟨A, c, hv, h3⟩ := h.sl3
  exact ⟨A, c, hv, h3.less hs he⟩
def TakePost (base s : Nat) (K : SK) (ns : List Int) (w : World) (ls st : List Int) (err : Int) (e : Ending) (w' : World) : Prop :=
  ∃ v, e = .returned v ∧ OwnInts w' w.heap.size v (st.drop (st.length - ns.length)) ∧ SInv base s K w' ls (st.take (st.length - ns.length)) (takeErr err ns (st.drop (st.length - ns.length))) ∧ But s w w'
set_option maxHeartbeats 1000000 in
theorem take_calls (base s : Nat) (K : SK) (B : Option Addr) (c : Nat) (ns : List Int) (w : World) (ls st : List Int) (err : Int) (h : SInv base s K w ls st err) (hy : IntSl (less w s) B c ns) (hl : ns.length ≤ st.length) (hb : st.length ≤ 17592186044400) :
    Calls Tryd.prog 101 #[.pointer (some ⟨s, 0, none⟩), .slice B ns.length c] w (TakePost base s K ns w ls st err) := by
  obtain ⟨SV, h1, h2, h3, h4⟩ := h.ex
  obtain ⟨SA, sc, rfl, hs3⟩ := h3.sl
  obtain ⟨A', hrun, hA'⟩ := drop_run SA st.length sc (st.length - ns.length) (by omega) hs3.1
  have hc9 : w.cell? ⟨s, 9, none⟩ = some (.slice SA st.length sc) := cell_of_row w s 9 _ _ _ h1
  have hsub : st.length - (st.length - ns.length) = ns.length := by omega
  have hcl := clone_calls A' (sc - (st.length - ns.length)) (st.drop (st.length - ns.length)) w (hA' w st rfl hs3) (by simp; omega)
  rw [List.length_drop, hsub] at hcl
  rw [hsub] at hrun
  have HC := Lib.hid hcl
  have H1 := Lib.hid h1
  have H2 := Lib.hid h2
  have H3 := Lib.hid h3
  have H4 := Lib.hid h4
  have HY := Lib.hid hy
  clear h h1 h2 h3 h4 hy hs3 hA' hcl hsub
  obtain ⟨d, hd⟩ : ∃ d, st.length - ns.length = d := ⟨_, rfl⟩
  have hdn : (st.length : Int) - (ns.length : Int) = (d : Int) := by omega
  have hds : d ≤ sc := by have := H3.out.sl; obtain ⟨_, _, e, hq⟩ := this; injection e with _ _ e; subst e; have := hq.1; omega
  rw [hd] at hrun HC
  unfold TakePost
  rw [hd]
  have HD := Lib.hid hd
  clear hd
  have hrun2 := take_run SA st.length sc d hds
  go_enter Tryd.func101, Tryd.ntmps101
  go_wp2_with fail
  refine HC.out.mono ?_
  rintro e w1 ⟨v, rfl, ho, hbe⟩
  have hb1 : w1.heap[s]? = some (.cells (stepCells K (.slice SA st.length sc) err) 93 (0, 0)) := (hbe.block s (Array.getElem?_eq_some_iff.1 H1.out).1).trans H1.out
  have c9 : w1.cell? ⟨s, 9, none⟩ = some (.slice SA st.length sc) := cell_of_row w1 s 9 _ _ _ hb1
  have f9 := frozen_of_row w1 s 9 _ _ hb1
  obtain ⟨GA, gc, rfl, hg⟩ := ho.less hb1 (by decide)
  have hgl : (st.drop d).length = ns.length := by rw [List.length_drop]; have := HD.out; omega
  rw [hgl] at ho
  have HO := Lib.hid ho
  have HB1 := Lib.hid hb1
  have HG := Lib.hid hg
  have HGL := Lib.hid hgl
  have HW := Lib.hid (But.of_below (g := s) hbe)
  have HSV := Lib.hid ((H3.out.below hbe).take d (by have := HD.out; omega))
  have HLV := Lib.hid (H2.out.below hbe)
  rw [hgl]
  clear ho hb1 hg hgl hbe hc9
  go_wp2
  have HU := Lib.hid ((But.refl s w1).set (p := ⟨s, 9, none⟩) (u := .slice SA d sc) (.inl rfl))
  have HI : Hid (SInv base s K (w1.setCell ⟨s, 9, none⟩ (.slice SA d sc)) ls (st.take d) err) :=
    Lib.hid ⟨.slice SA d sc, by rw [heap_setCell_same _ _ _ _ _ _ HB1.out]; rfl, HLV.out.kept (grown_of_but HU.out) (HLV.out.ne_s HB1.out), by
      have h := HSV.out.kept (grown_of_but HU.out) (HSV.out.ne_s HB1.out)
      exact h, by cases SA <;> exact H4.out⟩
  have HW2 := Lib.hid (HW.out.trans HU.out)
  have HG2 := Lib.hid (HG.out.below HU.out.less)
  have HO2 := Lib.hid (HO.out.kept (grown_of_but HU.out) (HO.out.ne_s HB1.out))
  clear HU HSV HLV HW HG HO HB1 HC H1 H2 H3 H4 c9 f9 hrun hrun2 hdn hds
  generalize w1.setCell ⟨s, 9, none⟩ (.slice SA d sc) = w2 at *
  generalize hgs : st.drop d = gs at *
  generalize hst2 : st.take d = st2 at *
  have HGS := Lib.hid hgs
  have HST2 := Lib.hid hst2
  clear hgs hst2
  have hzl : (ns.zip gs).length = ns.length := by rw [List.length_zip, HGL.out]; simp
  have HZ := Lib.hid hzl
  have hnb : ns.length ≤ 17592186044400 := by omega
  clear hzl HD hl hb
  go_loopw [7] (fun t wr => ∃ i : Int, -1 ≤ i ∧ i < ns.length ∧ t = .int .i64 i ∧ Hid (SInv base s K wr ls st2 (((ns.zip gs).drop (i + 1).toNat).foldr stepErr err)) ∧ Hid (But s w wr) ∧ Hid (OwnInts wr w.heap.size (.slice GA ns.length gc) gs) ∧ Hid (IntSl (less wr s) GA gc gs)) (fun t _ => (intOf t + 1).toNat)
  case atStart => exact ⟨_, by omega, by omega, rfl, by rw [List.drop_of_length_le (by rw [HZ.out]; omega)]; exact HI, HW2, HO2, HG2⟩
  case round =>
    clear HI HW2 HO2 HG2
    obtain ⟨i, hi0, hi1, rfl, HI, HW, HO, HG⟩ := hrel
    by_cases hlt : 0 ≤ i
    · obtain ⟨na, rfl, hna⟩ := (HY.out.below HW.out.less).of_less.getI i hlt hi1
      obtain ⟨ga, rfl, hga⟩ := HG.out.of_less.getI i hlt (by rw [HGL.out]; exact hi1)
      have HP : Hid (((ns.zip gs).drop i.toNat).foldr stepErr err = stepErr (ns.getD i.toNat 0, gs.getD i.toNat 0) (((ns.zip gs).drop (i + 1).toNat).foldr stepErr err)) := Lib.hid (by
        have h1 : i.toNat < (ns.zip gs).length := by rw [HZ.out]; omega
        have h2 : i.toNat < ns.length := by omega
        have h3 : i.toNat < gs.length := by rw [HGL.out]; omega
        rw [foldr_drop _ _ h1, List.getElem_zip, List.getD_eq_getElem?_getD, List.getElem?_eq_getElem h2, List.getD_eq_getElem?_getD, List.getElem?_eq_getElem h3, show (i + 1).toNat = i.toNat + 1 by omega]
        rfl)
      generalize ns.getD i.toNat 0 = x at *
      generalize gs.getD i.toNat 0 = y at *
      generalize ((ns.zip gs).drop (i + 1).toNat).foldr stepErr err = er at *
      have hdi : (i - 1 + 1).toNat = i.toNat := by omega
      have HDI := Lib.hid hdi
      clear hdi
      by_cases hx : x = -1
      · subst hx
        have HQ : Hid (stepErr (-1, y) er = er) := Lib.hid (stepErr_zero rfl er)
        have hx1 : ((-1 : Int) == -1) = true := rfl
        go_wp2
        go_roundw
        case rel => exact ⟨i - 1, by omega, by omega, rfl, Lib.hid (by rw [HDI.out, HP.out, HQ.out]; exact HI.out), Lib.hid HW.out, Lib.hid HO.out, Lib.hid HG.out⟩
        case measure => simp [intOf]; omega
      · have hx1 : (x == -1) = false := beq_eq_false_iff_ne.2 hx
        by_cases hy : y = -1
        · subst hy
          have hy1 : ((-1 : Int) == -1) = true := rfl
          have HQ : Hid (stepErr (x, -1) er = if er = 0 then 15 else er) := Lib.hid (by simp [stepErr, needErr, hx])
          clear hx
          go_wp2_with fail
          refine (fail_calls base s K 15 _ _ _ _ HI.out).mono ?_
          rintro e w9 ⟨rfl, hs9, hb9⟩
          have HS9 := Lib.hid hs9
          have HB9 := Lib.hid hb9
          clear hs9 hb9
          go_wp2
          go_roundw
          case rel => exact ⟨i - 1, by omega, by omega, rfl, Lib.hid (by rw [HDI.out, HP.out, HQ.out]; exact HS9.out), Lib.hid (HW.out.trans HB9.out), Lib.hid (HO.out.kept (grown_of_but HB9.out) (by obtain ⟨_, h1, _⟩ := HI.out.ex; exact HO.out.ne_s h1)), Lib.hid (HG.out.below HB9.out.less)⟩
          case measure => simp [intOf]; omega
        · have hy1 : (y == -1) = false := beq_eq_false_iff_ne.2 hy
          by_cases h2 : x = -2
          · subst h2
            have hx2 : ((-2 : Int) != -2) = false := rfl
            have HQ : Hid (stepErr (-2, y) er = er) := Lib.hid (stepErr_zero (by simp [needErr, hy]) er)
            clear hx hy
            go_wp2
            go_quiet (fail)
            go_wp2
            go_roundw
            case rel => exact ⟨i - 1, by omega, by omega, rfl, Lib.hid (by rw [HDI.out, HP.out, HQ.out]; exact (HI.out.below (below_drewN' (below_refl _)))), Lib.hid (HW.out.drewN), Lib.hid (HO.out.below (below_drewN' (below_refl _))), Lib.hid (HG.out.below (But.of_below (below_drewN' (below_refl _))).less)⟩
            case measure => simp [intOf]; omega
          · have hx2 : (x != -2) = true := bne_iff_ne.2 h2
            by_cases hxy : x = y
            · subst hxy
              have hxy1 : (x != x) = false := by simp
              have HQ : Hid (stepErr (x, x) er = er) := Lib.hid (stepErr_zero (by simp [needErr]) er)
              clear hx hy h2
              go_wp2
              go_quiet (fail)
              go_wp2
              go_roundw
              case rel => exact ⟨i - 1, by omega, by omega, rfl, Lib.hid (by rw [HDI.out, HP.out, HQ.out]; exact (HI.out.below (below_drewN' (below_refl _)))), Lib.hid (HW.out.drewN), Lib.hid (HO.out.below (below_drewN' (below_refl _))), Lib.hid (HG.out.below (But.of_below (below_drewN' (below_refl _))).less)⟩
              case measure => simp [intOf]; omega
            · have hxy1 : (x != y) = true := bne_iff_ne.2 hxy
              have HQ : Hid (stepErr (x, y) er = if er = 0 then 16 else er) := Lib.hid (by simp [stepErr, needErr, hx, hy, h2, hxy])
              clear hx hy h2 hxy
              go_wp2
              go_quiet (fail)
              go_wp2_with fail
              refine (fail_calls base s K 16 _ _ _ _ (HI.out.below (below_drewN' (n := nq) (below_refl _)))).mono ?_
              rintro e w9 ⟨rfl, hs9, hb9⟩
              have HS9 := Lib.hid hs9
              have HB9 := Lib.hid (((But.refl s wr).drewN (n := nq)).trans hb9)
              clear hs9 hb9
              go_wp2
              go_roundw
              case rel => exact ⟨i - 1, by omega, by omega, rfl, Lib.hid (by rw [HDI.out, HP.out, HQ.out]; exact HS9.out), Lib.hid (HW.out.trans HB9.out), Lib.hid (HO.out.kept (grown_of_but HB9.out) (by obtain ⟨_, h1, _⟩ := HI.out.ex; exact HO.out.ne_s h1)), Lib.hid (HG.out.below HB9.out.less)⟩
              case measure => simp [intOf]; omega
    · obtain rfl : i = -1 := by omega
      clear hlt hi0 hi1
      go_wp2
      go_ret
      have h1 := HO.out
      have h2 := HI.out
      rw [← HGS.out] at h1 h2
      rw [← HST2.out] at h2
      exact ⟨_, rfl, h1, h2, HW.out⟩
end Go.Proofs.YtdilmfnijkjiaaaDoor.K
