import Derived.Test.YtdilmfnijkjiaaaDoorK43
import Derived.Deep.RegionHeld3
set_option maxRecDepth 100000
set_option linter.unusedSimpArgs false
set_option linter.unusedVariables false
namespace Go.Proofs.YtdilmfnijkjiaaaDoor.K
open Go.RowKit
/-- What both lists know. -/
def bothL (xs ys : List Int) : List Int := List.zipWith (fun x y => if x = y then x else -1) xs ys
theorem bothL_len {xs ys : List Int} (h : xs.length = ys.length) : (bothL xs ys).length = xs.length := by simp [bothL, h]
theorem bothL_le {xs ys : List Int} (h : xs.length = ys.length) : Le xs (bothL xs ys) := by
  refine ⟨(bothL_len h).symm, fun j x y hx hy => ?_⟩
  unfold bothL at hy
  rw [List.getElem?_zipWith] at hy
  rw [hx] at hy
  cases hz : ys[j]? with
  | none => rw [hz] at hy; cases hy
  | some z =>
    rw [hz] at hy
    simp only [Option.some.injEq] at hy
    subst hy
    by_cases e : x = z
    · rw [if_pos e]; exact .inr rfl
    · rw [if_neg e]; exact .inl rfl
/-- How far the loop has come. -/
def Cur (xs ys cur : List Int) (k : Nat) : Prop := cur.length = xs.length ∧ (∀ j, j < k → cur[j]? = (bothL xs ys)[j]?) ∧ ∀ j, k ≤ j → cur[j]? = xs[j]?
theorem Cur.same {xs ys cur : List Int} {k : Nat} (h : Cur xs ys cur k) (hx : k < xs.length) (hy : k < ys.length) (e : xs.getD k 0 = ys.getD k 0) : Cur xs ys cur (k + 1) := by
  refine ⟨h.1, fun j hj => ?_, fun j hj => h.2.2 j (by omega)⟩
  rcases Nat.lt_or_ge j k with hj' | hj'
  · exact h.2.1 j hj'
  · obtain rfl : j = k := by omega
    rw [h.2.2 j (Nat.le_refl _)]
    unfold bothL
    rw [List.getElem?_zipWith, List.getElem?_eq_getElem hx, List.getElem?_eq_getElem hy]
    simp only [List.getD_eq_getElem?_getD, List.getElem?_eq_getElem hx, List.getElem?_eq_getElem hy, Option.getD_some] at e
    simp [e]
theorem Cur.put {xs ys cur : List Int} {k : Nat} (h : Cur xs ys cur k) (hx : k < xs.length) (hy : k < ys.length) (e : xs.getD k 0 ≠ ys.getD k 0) : Cur xs ys (cur.set k (-1)) (k + 1) := by
  refine ⟨by rw [List.length_set]; exact h.1, fun j hj => ?_, fun j hj => ?_⟩
  · rcases Nat.lt_or_ge j k with hj' | hj'
    · rw [List.getElem?_set_ne (by omega)]; exact h.2.1 j hj'
    · obtain rfl : j = k := by omega
      rw [List.getElem?_set_self (by rw [h.1]; exact hx)]
      unfold bothL
      rw [List.getElem?_zipWith, List.getElem?_eq_getElem hx, List.getElem?_eq_getElem hy]
      simp only [List.getD_eq_getElem?_getD, List.getElem?_eq_getElem hx, List.getElem?_eq_getElem hy, Option.getD_some, ne_eq] at e
      simp [e]
  · rw [List.getElem?_set_ne (by omega)]; exact h.2.2 j (by omega)
theorem Cur.done {xs ys cur : List Int} {k : Nat} (h : Cur xs ys cur k) (hk : xs.length ≤ k) (hl : xs.length = ys.length) : cur = bothL xs ys := by
  apply List.ext_getElem?
  intro j
  rcases Nat.lt_or_ge j k with hj | hj
  · exact h.2.1 j hj
  · rw [h.2.2 j hj, List.getElem?_eq_none (by omega), List.getElem?_eq_none (by rw [bothL_len hl]; omega)]
theorem Cur.start (xs ys : List Int) : Cur xs ys xs 0 := ⟨rfl, fun j hj => by omega, fun _ _ => rfl⟩
set_option maxHeartbeats 2000000 in
theorem both_calls (A : Option Addr) (c : Nat) (xs : List Int) (B : Option Addr) (d : Nat) (ys : List Int) (w : World) (hA : IntSl w A c xs) (hB : IntSl w B d ys) (hl : xs.length = ys.length) (hm : xs.length * 8 ≤ 140737488355328) :
    Calls Tryd.prog 76 #[.slice A xs.length c, .slice B ys.length d] w fun e w' => ∃ v, e = .returned v ∧ OwnInts w' w.heap.size v (bothL xs ys) ∧ Below w.heap.size w w' := by
  have HC := Lib.hid (clone_calls A c xs w hA hm)
  have HB := Lib.hid hB
  have HLEN := Lib.hid hl
  have hxl : xs.length ≤ 9223372036854775807 := Nat.le_trans hA.1 hA.2.1
  clear hA hB hl hm
  by_cases h0 : xs.length = 0
  · obtain rfl : xs = [] := List.eq_nil_of_length_eq_zero h0
    obtain rfl : ys = [] := List.eq_nil_of_length_eq_zero HLEN.out.symm
    clear h0
    go_enter Tryd.func76, Tryd.ntmps76
    go_wp2_with fail
    refine HC.out.mono ?_
    rintro e w1 ⟨v, rfl, ho, hb⟩
    have HO := Lib.hid ho
    have HBW := Lib.hid hb
    clear ho hb HC
    go_wp2_with fail
    go_loopw [12] (fun t wr => t = .int .i64 0 ∧ wr = w1) (fun t _ => 0)
    case atStart => exact ⟨rfl, rfl⟩
    case round =>
      obtain ⟨rfl, rfl⟩ := hrel
      go_wp2
      go_ret
      exact ⟨_, rfl, HO.out, HBW.out⟩
  · go_enter Tryd.func76, Tryd.ntmps76
    go_wp2_with fail
    refine HC.out.mono ?_
    rintro e w1 ⟨v, rfl, ho, hb⟩
    obtain ⟨b, cap, rfl, hbg⟩ := ho.some_of (by omega)
    have HO := Lib.hid ho
    have HBW := Lib.hid hb
    clear ho hb HC
    go_wp2_with fail
    go_loopw [12] (fun t wr => ∃ (k : Nat) (cur : List Int), k ≤ ys.length ∧ t = .int .i64 k ∧ Hid (Cur xs ys cur k) ∧ Hid (OwnInts wr w.heap.size (.slice (some ⟨b, 0, none⟩) xs.length cap) cur) ∧ Hid (Below w.heap.size w wr)) (fun t _ => ys.length - (intOf t).toNat)
    case atStart => exact ⟨0, xs, Nat.zero_le _, rfl, Lib.hid (Cur.start xs ys), HO, HBW⟩
    case round =>
      obtain ⟨k, cur, hk, rfl, HCU, HOR, HBR⟩ := hrel
      clear HO HBW
      by_cases hlt : k < ys.length
      · have hlen := HLEN.out
        have hcl := HCU.out.1
        obtain ⟨pb, rfl, hb⟩ := HB.out.getI (k : Int) (by omega) (by omega)
        rw [Int.toNat_natCast] at hb
        have hb' := cell_below HBR.out hb
        obtain ⟨q0, q1⟩ := HOR.out.cellAt k (by omega)
        have hq : cur[k]'(by omega) = xs.getD k 0 := by
          have := HCU.out.2.2 k (Nat.le_refl _)
          rw [List.getElem?_eq_getElem (by omega), List.getElem?_eq_getElem (by omega)] at this
          rw [List.getD_eq_getElem?_getD, List.getElem?_eq_getElem (by omega)]
          exact Option.some.inj this
        rw [hq] at q0
        have hkx : (k : Int) < (xs.length : Int) := by omega
        have HE := Lib.hid (fun e => HCU.out.same (by omega) hlt e)
        have HN := Lib.hid (fun e => HCU.out.put (by omega) hlt e)
        clear hb hq hlen hcl HCU
        generalize xs.getD k 0 = x at *
        generalize ys.getD k 0 = y at *
        by_cases hxy : x = y
        · have HE1 := Lib.hid (HE.out hxy)
          subst hxy
          clear HE HN
          go_wp2_with fail
          go_roundw
          case rel => exact ⟨k + 1, cur, by omega, by go_num, HE1, HOR, HBR⟩
          case measure => simp [intOf]; omega
        · have HN1 := Lib.hid (HN.out hxy)
          have hne : (x != y) = true := bne_iff_ne.2 hxy
          clear HE HN hxy
          go_wp2_with fail
          go_roundw
          case rel => exact ⟨k + 1, cur.set k (-1), by omega, by go_num, HN1, Lib.hid (HOR.out.set k (-1)), Lib.hid (below_set' HBR.out hbg)⟩
          case measure => simp [intOf]; omega
      · have hd := HCU.out.done (by have := HLEN.out; omega) HLEN.out
        subst hd
        go_wp2
        go_ret
        exact ⟨_, rfl, HOR.out, HBR.out⟩
end Go.Proofs.YtdilmfnijkjiaaaDoor.K
