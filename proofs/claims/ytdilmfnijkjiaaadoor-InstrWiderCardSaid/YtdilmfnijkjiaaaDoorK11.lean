import Derived.Test.YtdilmfnijkjiaaaDoorK10
set_option maxRecDepth 100000
set_option linter.unusedSimpArgs false
set_option linter.unusedVariables false
namespace Go.Proofs.YtdilmfnijkjiaaaDoor.K
open Go.RowKit
/-- The types and the classes of a table, as they lie. -/
structure TabL (w : World) (g : Nat) (A : Option Addr) (c : Nat) (ts : List Ty) (L : Option Addr) (lc : Nat) (lk : List Int) : Prop where
  blk : w.heap[g]? = some (.cells #[.slice A ts.length c, .slice L lk.length lc] 100 (0, 0))
  tys : TySl w A c ts
  likes : IntSl w L lc lk
  len : lk.length = ts.length
  parts : ∀ t ∈ ts, ∀ p ∈ t.parts, 0 ≤ p ∧ p < ts.length
  ofs : ∀ t ∈ ts, 0 ≤ t.of ∧ t.of < ts.length
  short : ts.length ≤ 62
theorem tyAt_mem (ts : List Ty) (n : Int) (h0 : 0 ≤ n) (h1 : n < ts.length) : tyAt ts n ∈ ts := by
  unfold tyAt
  have hi : n.toNat < ts.length := by omega
  rw [List.getD_eq_getElem?_getD, List.getElem?_eq_getElem hi]
  exact List.getElem_mem hi
theorem IntSl.getI {w : World} {A : Option Addr} {c : Nat} {xs : List Int} (h : IntSl w A c xs) (n : Int) (h0 : 0 ≤ n) (h1 : n < xs.length) : ∃ ad, A = some ad ∧ w.cell? (ad.add n.toNat) = some (.int .i64 (xs.getD n.toNat 0)) := by
  have hi : n.toNat < xs.length := by omega
  obtain ⟨ad, e, hc⟩ := h.at_ n.toNat hi
  refine ⟨ad, e, ?_⟩
  rw [List.getD_eq_getElem?_getD, List.getElem?_eq_getElem hi]
  exact hc
theorem ret_bool {a b : Bool} (h : a = b) : Ending.returned (.bool a) = Ending.returned (.bool b) := by rw [h]
def likeAt (lk : List Int) (n : Int) : Int := lk.getD n.toNat 0
def goesB (lk : List Int) (a b : Ty) : Bool := (a.parts.zip b.parts).all (fun p => likeAt lk p.1 == likeAt lk p.2) && likeAt lk a.of == likeAt lk b.of
theorem goes_all (lk : List Int) (a b : Ty) (hl : a.parts.length = b.parts.length) (h : ∀ j x y, j < a.parts.length → a.parts[j]? = some x → b.parts[j]? = some y → likeAt lk x = likeAt lk y) : goesB lk a b = (likeAt lk a.of == likeAt lk b.of) := by
  have : (a.parts.zip b.parts).all (fun p => likeAt lk p.1 == likeAt lk p.2) = true := by
    rw [List.all_eq_true]
    intro p hp
    obtain ⟨j, hj⟩ := List.getElem?_of_mem hp
    rw [List.getElem?_zip_eq_some] at hj
    exact beq_iff_eq.2 (h j p.1 p.2 (List.getElem?_eq_some_iff.1 hj.1).1 hj.1 hj.2)
  unfold goesB
  rw [this, Bool.true_and]
theorem goes_not (lk : List Int) (a b : Ty) (j : Nat) (x y : Int) (hx : a.parts[j]? = some x) (hy : b.parts[j]? = some y) (h : likeAt lk x ≠ likeAt lk y) : goesB lk a b = false := by
  have : (a.parts.zip b.parts).all (fun p => likeAt lk p.1 == likeAt lk p.2) = false := by
    rw [List.all_eq_false]
    refine ⟨(x, y), List.mem_of_getElem? (i := j) (by rw [List.getElem?_zip_eq_some]; exact ⟨hx, hy⟩), by simpa using h⟩
  unfold goesB
  rw [this, Bool.false_and]
set_option maxHeartbeats 1000000 in
theorem goes_calls (g : Nat) (A : Option Addr) (c : Nat) (ts : List Ty) (L : Option Addr) (lc : Nat) (lk : List Int) (a b : Int) (w : World) (h : TabL w g A c ts L lc lk) (ha0 : 0 ≤ a) (ha1 : a < ts.length) (hb0 : 0 ≤ b) (hb1 : b < ts.length)
    (hlen : (tyAt ts a).parts.length = (tyAt ts b).parts.length) :
    Calls Tryd.prog 110 #[.pointer (some ⟨g, 0, none⟩), .int .i64 a, .int .i64 b] w fun e w' => e = .returned (.bool (goesB lk (tyAt ts a) (tyAt ts b))) ∧ ∃ m, w' = w.drewN m := by
  have c0 : w.cell? ⟨g, 0, none⟩ = some (.slice A ts.length c) := cell_of_row w g 0 _ _ _ h.blk
  have c1 : w.cell? ⟨g, 1, none⟩ = some (.slice L lk.length lc) := cell_of_row w g 1 _ _ _ h.blk
  obtain ⟨ad, A1, c1', rfl, _, a1, a2, a3⟩ := h.tys.get a ha0 ha1
  obtain ⟨ad', B1, d1', e', _, b1, b2, b3⟩ := h.tys.get b hb0 hb1
  obtain rfl := Option.some.inj e'
  have HPa := Lib.hid (h.parts _ (tyAt_mem ts a ha0 ha1))
  have HPb := Lib.hid (h.parts _ (tyAt_mem ts b hb0 hb1))
  obtain ⟨hoa0, hoa1⟩ := h.ofs _ (tyAt_mem ts a ha0 ha1)
  obtain ⟨hob0, hob1⟩ := h.ofs _ (tyAt_mem ts b hb0 hb1)
  have HLK := Lib.hid h.likes
  have HLN := Lib.hid h.len
  have HA := Lib.hid a3
  have HB := Lib.hid b3
  have HLEN := Lib.hid hlen
  have hpl : (tyAt ts a).parts.length ≤ 9223372036854775807 := Nat.le_trans a3.1 a3.2.1
  clear h a3 b3 hlen e'
  generalize tyAt ts a = ta at *
  generalize tyAt ts b = tb at *
  obtain ⟨R, hR⟩ : ∃ R, goesB lk ta tb = R := ⟨_, rfl⟩
  rw [hR]
  have HR := Lib.hid hR
  clear hR
  go_enter Tryd.func110, Tryd.ntmps110
  go_wp2
  go_loopw [18] (fun t wr => ∃ k : Nat, k ≤ ta.parts.length ∧ t = .int .i64 k ∧ Hid (∀ j x y, j < k → ta.parts[j]? = some x → tb.parts[j]? = some y → likeAt lk x = likeAt lk y) ∧ ∃ m, wr = w.drewN m) (fun t _ => ta.parts.length - (intOf t).toNat)
  case atStart => exact ⟨0, Nat.zero_le _, rfl, Lib.hid (fun j x y h => by omega), 0, rfl⟩
  case round =>
    obtain ⟨k, hk, rfl, HJ, m, rfl⟩ := hrel
    by_cases hlt : k < ta.parts.length
    · obtain ⟨pa, rfl, hpa⟩ := HA.out.at_ k hlt
      have hlt' : k < tb.parts.length := by have := HLEN.out; omega
      obtain ⟨pb, rfl, hpb⟩ := HB.out.at_ k hlt'
      have hxa := HPa.out _ (List.getElem_mem hlt)
      have hxb := HPb.out _ (List.getElem_mem hlt')
      have HX := Lib.hid (List.getElem?_eq_getElem hlt)
      have HY := Lib.hid (List.getElem?_eq_getElem hlt')
      have hib : (k : Int) < (tb.parts.length : Int) := by omega
      generalize ta.parts[k] = x at *
      generalize tb.parts[k] = y at *
      obtain ⟨hx0, hx1⟩ := hxa
      obtain ⟨hy0, hy1⟩ := hxb
      obtain ⟨la, rfl, hlx⟩ := HLK.out.getI x hx0 (by have := HLN.out; omega)
      obtain ⟨la', e', hly⟩ := HLK.out.getI y hy0 (by have := HLN.out; omega)
      obtain rfl := Option.some.inj e'
      have hx2 : x < (lk.length : Int) := by have := HLN.out; omega
      have hy2 : y < (lk.length : Int) := by have := HLN.out; omega
      clear e'
      have HU := Lib.hid (show likeAt lk x = lk.getD x.toNat 0 from rfl)
      have HV := Lib.hid (show likeAt lk y = lk.getD y.toNat 0 from rfl)
      generalize lk.getD x.toNat 0 = u at *
      generalize lk.getD y.toNat 0 = v at *
      by_cases huv : u = v
      · subst huv
        go_wp2
        go_quiet (fail)
        go_wp2
        go_roundw
        case rel => exact ⟨k + 1, by omega, by go_num, Lib.hid (fun j x' y' hj hx' hy' => by
          rcases Nat.lt_or_ge j k with h | h
          · exact HJ.out j x' y' h hx' hy'
          · have : j = k := by omega
            subst this
            rw [HX.out] at hx'
            rw [HY.out] at hy'
            obtain rfl := Option.some.inj hx'
            obtain rfl := Option.some.inj hy'
            exact HU.out.trans HV.out.symm), by first | exact ⟨_, rfl⟩ | exact ⟨_, World.drewN_drewN ..⟩⟩
        case measure => simp [intOf]; omega
      · have huv' : (u != v) = true := bne_iff_ne.2 huv
        have HN := Lib.hid huv
        clear huv
        go_wp2
        go_quiet (fail)
        go_wp2
        go_ret
        exact ⟨ret_bool ((goes_not lk ta tb k x y HX.out HY.out (by rw [HU.out, HV.out]; exact HN.out)).symm.trans HR.out), by first | exact ⟨_, rfl⟩ | exact ⟨_, World.drewN_drewN ..⟩⟩
    · obtain ⟨la, rfl, hlx⟩ := HLK.out.getI ta.of hoa0 (by have := HLN.out; omega)
      obtain ⟨la', e', hly⟩ := HLK.out.getI tb.of hob0 (by have := HLN.out; omega)
      obtain rfl := Option.some.inj e'
      have hx2 : ta.of < (lk.length : Int) := by have := HLN.out; omega
      have hy2 : tb.of < (lk.length : Int) := by have := HLN.out; omega
      clear e'
      have HE := Lib.hid (show (likeAt lk ta.of == likeAt lk tb.of) = R from (goes_all lk ta tb HLEN.out (fun j x y hj hx hy => HJ.out j x y (by omega) hx hy)).symm.trans HR.out)
      have HU := Lib.hid (show likeAt lk ta.of = lk.getD ta.of.toNat 0 from rfl)
      have HV := Lib.hid (show likeAt lk tb.of = lk.getD tb.of.toNat 0 from rfl)
      generalize lk.getD ta.of.toNat 0 = u at *
      generalize lk.getD tb.of.toNat 0 = v at *
      go_wp2
      go_quiet (fail)
      go_wp2
      go_ret
      exact ⟨ret_bool (by have := HE.out; rwa [HU.out, HV.out] at this), by first | exact ⟨_, rfl⟩ | exact ⟨_, World.drewN_drewN ..⟩⟩
set_option maxHeartbeats 1000000 in
theorem equal_calls (A : Option Addr) (c : Nat) (xs : List Int) (B : Option Addr) (d : Nat) (ys : List Int) (w : World) (hA : IntSl w A c xs) (hB : IntSl w B d ys) :
    Calls Tryd.prog 75 #[.slice A xs.length c, .slice B ys.length d] w fun e w' => e = .returned (.bool (decide (xs = ys))) ∧ ∃ m, w' = w.drewN m := by
  have hxl : xs.length ≤ 9223372036854775807 := Nat.le_trans hA.1 hA.2.1
  have hyl : ys.length ≤ 9223372036854775807 := Nat.le_trans hB.1 hB.2.1
  by_cases hl : xs.length = ys.length
  · have HL := Lib.hid hl
    have HA := Lib.hid hA
    have HB := Lib.hid hB
    have hlb : ((xs.length : Int) != (ys.length : Int)) = false := by simp [hl]
    have hlb' : (xs.length == ys.length) = true := by simp [hl]
    clear hl hA hB
    go_enter Tryd.func75, Tryd.ntmps75
    go_wp2
    go_loopw [13] (fun t wr => ∃ k : Nat, k ≤ xs.length ∧ t = .int .i64 k ∧ Hid (xs.take k = ys.take k) ∧ ∃ m, wr = w.drewN m) (fun t _ => xs.length - (intOf t).toNat)
    case atStart => exact ⟨0, Nat.zero_le _, rfl, Lib.hid rfl, 0, rfl⟩
    case round =>
      obtain ⟨k, hk, rfl, HT, m, rfl⟩ := hrel
      by_cases hlt : k < xs.length
      · have hlt2 : k < ys.length := by have := HL.out; omega
        obtain ⟨pa, rfl, hpa⟩ := HA.out.at_ k hlt
        obtain ⟨pb, rfl, hpb⟩ := HB.out.at_ k hlt2
        have hx : xs[k]? = some xs[k] := List.getElem?_eq_getElem hlt
        have hy : ys[k]? = some ys[k] := List.getElem?_eq_getElem hlt2
        have HX := Lib.hid hx
        have HY := Lib.hid hy
        clear hx hy
        generalize xs[k] = x at *
        generalize ys[k] = y at *
        by_cases hxy : x = y
        · subst hxy
          go_wp2
          go_quiet (fail)
          go_wp2
          go_roundw
          case rel => exact ⟨k + 1, by omega, by go_num, Lib.hid (by rw [List.take_add_one, List.take_add_one, HT.out, HX.out, HY.out]), _, rfl⟩
          case measure => simp [intOf]; omega
        · have hxy' : (x != y) = true := bne_iff_ne.2 hxy
          have HE := Lib.hid (show decide (xs = ys) = false from decide_eq_false (fun e => hxy (by
            have h1 := HX.out
            rw [e, HY.out] at h1
            exact (Option.some.inj h1).symm)))
          clear hxy
          go_wp2
          go_quiet (fail)
          go_wp2
          go_ret
          exact ⟨by rw [HE.out]; rfl, by first | exact ⟨_, rfl⟩ | exact ⟨_, World.drewN_drewN ..⟩⟩
      · have HE := Lib.hid (show decide (xs = ys) = true from decide_eq_true (by
          have h1 := HT.out
          rwa [List.take_of_length_le (by omega), List.take_of_length_le (by have := HL.out; omega)] at h1))
        go_wp2
        go_ret
        exact ⟨by rw [HE.out]; rfl, by first | exact ⟨_, rfl⟩ | exact ⟨_, World.drewN_drewN ..⟩⟩
  · have e : decide (xs = ys) = false := decide_eq_false (fun e => hl (by rw [e]))
    rw [e]
    have hlb : ((xs.length : Int) != (ys.length : Int)) = true := by simp; omega
    have hlb' : (xs.length == ys.length) = false := by simp [hl]
    clear e hA hB
    go_enter Tryd.func75, Tryd.ntmps75
    go_wp2
    go_ret
    exact ⟨rfl, 0, rfl⟩
theorem natBeq (a b : Nat) : ((a : Int) == (b : Int)) = (true && a == b) := by rw [Bool.eq_iff_iff]; simp; omega
def klEq (s t : Ty) : Bool := s.kind == t.kind && s.parts.length == t.parts.length
set_option maxHeartbeats 1000000 in
theorem clos_calls (g : Nat) (A : Option Addr) (c : Nat) (ts : List Ty) (bt bi : Nat) (i : Int) (x : Ty) (X : Option Addr) (xc : Nat) (w : World) (c0 : w.cell? ⟨g, 0, none⟩ = some (.slice A ts.length c)) (hty : TySl w A c ts)
    (ht : w.cell? ⟨bt, 0, none⟩ = some (.pointer (some ⟨g, 0, none⟩))) (hi : w.cell? ⟨bi, 0, none⟩ = some (.int .i64 i)) (h0 : 0 ≤ i) (h1 : i < ts.length) :
    Calls Tryd.prog 109 #[tyV x.kind X x.parts.length xc x.of, .pointer (some ⟨bt, 0, none⟩), .pointer (some ⟨bi, 0, none⟩)] w fun e w' => e = .returned (.bool (klEq x (tyAt ts i))) ∧ Below w.heap.size w w' := by
  obtain ⟨ad, A1, c1', rfl, a0, a1, a2, a3⟩ := hty.get i h0 h1
  obtain ⟨xk, xp, xo⟩ := x
  generalize tyAt ts i = ti at *
  obtain ⟨tk, tp, to_⟩ := ti
  clear hty a2 a3
  have b0 := Lib.hid (below_refl w)
  have f1 := fun o => cell_below (below_alloc' (o := o) b0.out) c0
  have f2 := fun o => cell_below (below_alloc' (o := o) b0.out) a0
  have f3 := fun o => cell_below (below_alloc' (o := o) b0.out) a1
  have f4 := fun o => cell_below (below_alloc' (o := o) b0.out) ht
  have f5 := fun o => cell_below (below_alloc' (o := o) b0.out) hi
  dsimp only at f2 f3
  clear c0 a0 a1 ht hi
  unfold klEq
  dsimp only
  by_cases hk : xk = tk
  · subst hk
    have hk' : (xk == xk) = true := beq_iff_eq.2 rfl
    go_enter Tryd.func109, Tryd.ntmps109
    go_wp2
    go_quiet (fail)
    go_wp2
    go_ret
    exact ⟨by rw [hk']; exact ret_bool (natBeq _ _), below_drewN' (below_alloc' b0.out)⟩
  · have hk' : (xk == tk) = false := beq_eq_false_iff_ne.2 hk
    clear hk
    go_enter Tryd.func109, Tryd.ntmps109
    go_wp2
    go_quiet (fail)
    go_wp2
    go_ret
    exact ⟨by rw [hk']; rfl, below_drewN' (below_alloc' b0.out)⟩
set_option maxHeartbeats 1000000 in
theorem indexf_calls (g : Nat) (A : Option Addr) (c : Nat) (ts : List Ty) (bt bi : Nat) (i : Int) (w : World) (c0 : w.cell? ⟨g, 0, none⟩ = some (.slice A ts.length c)) (hty : TySl w A c ts) (hs : ts.length ≤ 62)
    (ht : w.cell? ⟨bt, 0, none⟩ = some (.pointer (some ⟨g, 0, none⟩))) (hi : w.cell? ⟨bi, 0, none⟩ = some (.int .i64 i)) (h0 : 0 ≤ i) (h1 : i < ts.length) :
    Calls Tryd.prog 108 #[.slice A ts.length c, .func (.func 109) #[] #[.pointer (some ⟨bt, 0, none⟩), .pointer (some ⟨bi, 0, none⟩)]] w fun e w' => (∃ r : Int, 0 ≤ r ∧ r ≤ i ∧ klEq (tyAt ts r) (tyAt ts i) = true ∧ e = .returned (.int .i64 r)) ∧ Below w.heap.size w w' := by
  have HH := Lib.hid hty
  have HC := Lib.hid (fun (w' : World) (x : Ty) (X : Option Addr) (xc : Nat) (hb : Below w.heap.size w w') => clos_calls g A c ts bt bi i x X xc w' (cell_below hb c0) (hty.below hb) (cell_below hb ht) (cell_below hb hi) h0 h1)
  clear hty ht hi c0
  go_enter Tryd.func108, Tryd.ntmps108
  go_wp2
  go_loopw [8] (fun t wr => ∃ k : Nat, k ≤ i ∧ t = .int .i64 k ∧ Hid (Below w.heap.size w wr)) (fun t _ => ts.length - (intOf t).toNat)
  case atStart => exact ⟨0, h0, rfl, Lib.hid (below_refl w)⟩
  case round =>
    obtain ⟨k, hk, rfl, HB⟩ := hrel
    obtain ⟨ad, A', c', rfl, g0, g1, g2, g3⟩ := HH.out.get (k : Int) (by omega) (by omega)
    rw [Int.toNat_natCast] at g0 g1 g2
    have g0' := cell_below HB.out g0
    have g1' := cell_below HB.out g1
    have g2' := cell_below HB.out g2
    clear g0 g1 g2 g3
    have hlt : k < ts.length := by omega
    have HD := Lib.hid (HC.out wr (tyAt ts k) A' c' HB.out)
    clear HC
    go_wp2_with fail
    refine HD.out.mono ?_
    rintro e w1 ⟨rfl, hb⟩
    have HB1 := Lib.hid (below_then HB.out hb)
    clear hb
    by_cases hkl : klEq (tyAt ts k) (tyAt ts i) = true
    · have HK := Lib.hid hkl
      rw [hkl]
      clear hkl
      go_wp2
      go_ret
      exact ⟨⟨k, by omega, hk, HK.out, rfl⟩, HB1.out⟩
    · have hkl' : klEq (tyAt ts k) (tyAt ts i) = false := by simpa using hkl
      have hki : (k : Int) < i := by
        rcases Int.lt_or_eq_of_le hk with h | h
        · exact h
        · exfalso
          rw [h] at hkl
          exact hkl (by simp [klEq])
      rw [hkl']
      clear hkl hkl'
      go_wp2
      go_roundw
      case rel => exact ⟨k + 1, by omega, by go_num, HB1⟩
      case measure => simp [intOf]; omega
end Go.Proofs.YtdilmfnijkjiaaaDoor.K
