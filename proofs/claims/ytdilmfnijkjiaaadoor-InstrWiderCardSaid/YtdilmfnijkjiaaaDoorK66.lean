import Derived.Test.YtdilmfnijkjiaaaDoorK65
import Derived.Lib.SplitLaws
import Derived.Deep.WholeRow
set_option maxRecDepth 100000
set_option linter.unusedSimpArgs false
set_option linter.unusedVariables false
namespace Go.Proofs.YtdilmfnijkjiaaaDoor.K
open Go.RowKit
def spB : ByteArray := ⟨#[32]⟩
def wordsOf (s : ByteArray) : List ByteArray := Lib.splitB spB 0 (Lib.countB s spB) s
theorem wordsOf_len (s : ByteArray) : (wordsOf s).length = Lib.countB s spB + 1 := Lib.splitB_all spB (by decide) 0 _ s rfl
/-- The operands that the words behind the name tell. -/
def parseL : List ByteArray → Nat → Int → Int → Option (Int × Int)
  | [], _, a, b => some (a, b)
  | x :: r, k, a, b =>
    match parseN x with
    | none => none
    | some n => if 1 < k then none else if k = 0 then parseL r (k + 1) n b else parseL r (k + 1) a n
def parseF (op : Int) (s : ByteArray) : Option (Int × Int) → Option Ins
  | none => none
  | some (a, b) => if textM ⟨op, a, b⟩ = s then some ⟨op, a, b⟩ else none
/-- The instruction of a text. -/
def parseM (s : ByteArray) : Option Ins :=
  if opOf ((wordsOf s).headD ⟨#[]⟩) < 0 then none else parseF (opOf ((wordsOf s).headD ⟨#[]⟩)) s (parseL (wordsOf s).tail 0 0 0)
abbrev insVal (i : Ins) : Value := .agg #[.int .i64 i.op, .int .i64 i.a, .int .i64 i.b]
def ParsePost (w : World) (r : Option Ins) (e : Ending) (w' : World) : Prop := e = .returned (.tuple #[insVal (r.getD ⟨0, 0, 0⟩), .bool r.isSome]) ∧ Below w.heap.size w w'
theorem parseL_at {tl : List ByteArray} {k : Nat} {y : ByteArray} (hy : tl[k]? = some y) (a b : Int) :
    parseL (tl.drop k) k a b = match parseN y with
      | none => none
      | some n => if 1 < k then none else if k = 0 then parseL (tl.drop (k + 1)) (k + 1) n b else parseL (tl.drop (k + 1)) (k + 1) a n := by
  obtain ⟨hk, rfl⟩ := List.getElem?_eq_some_iff.1 hy
  rw [List.drop_eq_getElem_cons hk, parseL]
theorem parseL_none {tl : List ByteArray} {k : Nat} {y : ByteArray} {a b : Int} {R} (hy : tl[k]? = some y) (h : parseL (tl.drop k) k a b = R) (hn : parseN y = none) : R = none := by
  rw [parseL_at hy, hn] at h; exact h.symm
theorem parseL_many {tl : List ByteArray} {k : Nat} {y : ByteArray} {a b n : Int} {R} (hy : tl[k]? = some y) (h : parseL (tl.drop k) k a b = R) (hn : parseN y = some n) (hk : 1 < k) : R = none := by
  rw [parseL_at hy, hn] at h; dsimp only at h; rw [if_pos hk] at h; exact h.symm
theorem parseL_zero {tl : List ByteArray} {k : Nat} {y : ByteArray} {a b n : Int} {R} (hy : tl[k]? = some y) (h : parseL (tl.drop k) k a b = R) (hn : parseN y = some n) (hk : k = 0) : parseL (tl.drop (k + 1)) (k + 1) n b = R := by
  rw [parseL_at hy, hn] at h; dsimp only at h; rw [if_neg (by omega), if_pos hk] at h; exact h
theorem parseL_one {tl : List ByteArray} {k : Nat} {y : ByteArray} {a b n : Int} {R} (hy : tl[k]? = some y) (h : parseL (tl.drop k) k a b = R) (hn : parseN y = some n) (hk : k = 1) : parseL (tl.drop (k + 1)) (k + 1) a n = R := by
  rw [parseL_at hy, hn] at h; dsimp only at h; rw [if_neg (by omega), if_neg (by omega)] at h; exact h
theorem parseL_end {tl : List ByteArray} {a b : Int} {R} (h : parseL (tl.drop tl.length) tl.length a b = R) : R = some (a, b) := by
  rw [List.drop_length, parseL] at h; exact h.symm
theorem cell_under {B : Nat} {w w1 : World} (h : Below B w w1) {a : Addr} {v : Value} (hl : a.block < B) (hc : w.cell? a = some v) : w1.cell? a = some v := (h.cell hl).trans hc
theorem row_under {B : Nat} {w w1 : World} (h : Below B w w1) {b : Nat} {o : Obj} (hl : b < B) (hc : w.heap[b]? = some o) : w1.heap[b]? = some o := (h.block b hl).trans hc
theorem parseM_neg {s x0 : ByteArray} {tl : List ByteArray} (h : wordsOf s = x0 :: tl) (hop : opOf x0 < 0) : parseM s = none := by
  unfold parseM; rw [h]; exact if_pos hop
theorem parseM_pos {s x0 : ByteArray} {tl : List ByteArray} (h : wordsOf s = x0 :: tl) (hop : ¬ opOf x0 < 0) : parseM s = parseF (opOf x0) s (parseL tl 0 0 0) := by
  unfold parseM; rw [h]; exact if_neg hop
theorem below_base' {w : World} {b : Nat} (h : w.heap.size = b + 1) : Below b w w := ⟨rfl, rfl, rfl, Nat.le_refl _, fun _ _ => rfl⟩
theorem Env.under {w w1 : World} {B : Nat} (h : Env w) (hb : Below B w w1) (hB : 4 ≤ B) : Env w1 := by
  obtain ⟨⟨m, hm⟩, ht, ⟨t1, p1, h1⟩, ⟨t2, p2, h2⟩⟩ := h
  refine ⟨⟨m, cell_under hb (by show 0 < B; omega) hm⟩, ?_, ⟨t1, p1, cell_under hb (by show 2 < B; omega) h1⟩, ⟨t2, p2, cell_under hb (by show 3 < B; omega) h2⟩⟩
  unfold Lib.TabIs World.var? at ht ⊢
  simp only [glob1, Option.bind_some] at ht ⊢
  rw [hb.block 1 (by omega)]
  exact ht
theorem Env.size {w : World} (h : Env w) : 4 ≤ w.heap.size := by
  obtain ⟨_, _, _, ⟨t2, p2, h2⟩⟩ := h
  exact World.block_lt_of_cell? w _ h2
theorem parseL_end' {tl : List ByteArray} {m k : Nat} {a b : Int} {R} (hm : tl.length = m) (hk : k = m) (h : parseL (tl.drop k) k a b = R) : some (a, b) = R := by
  subst hm; subst hk; exact (parseL_end h).symm
theorem below_trans_under {B C : Nat} {w w1 w2 : World} (h : Below B w w1) (h2 : Below C w1 w2) (hBC : B ≤ C) : Below B w w2 := h.trans (h2.mono hBC)
set_option maxHeartbeats 4000000 in
theorem parseI_calls (s : ByteArray) (hs : s.size < 4294967281) (w : World) (hE : Env w) (hws : ∀ x ∈ (wordsOf s), x.size ≤ 281474976710656) : Calls Tryd.prog 41 #[.string s] w (ParsePost w (parseM s)) := by
  have hlen := wordsOf_len s
  have hB0 : Below w.heap.size w (w.alloc (.cells #[.int .i64 0, .int .i64 0, .int .i64 0] 27)) := below_alloc' (below_refl w)
  obtain ⟨mx, hmx⟩ := (hE.below hB0).maxl
  have hSp := Tryd.strings_Split s spB mx (w.alloc (.cells #[.int .i64 0, .int .i64 0, .int .i64 0] 27)) hs hmx (by decide)
  have hE0 := hE.below hB0
  change Calls Tryd.prog 86 _ _ (fun e w' => e = .returned (.slice _ (Lib.countB s spB + 1) (Lib.countB s spB + 1)) ∧ w' = World.alloc _ (.cells ((wordsOf s).map Value.string).toArray 9)) at hSp
  rw [← hlen] at hSp
  obtain ⟨x0, tl, hwl⟩ : ∃ x0 tl, wordsOf s = x0 :: tl := by
    cases h : wordsOf s with
    | nil => rw [h] at hlen; simp at hlen
    | cons x r => exact ⟨x, r, rfl⟩
  rw [hwl] at hSp hws
  have hm1 := parseM_neg (s := s) hwl
  have hm2 := parseM_pos (s := s) hwl
  rw [List.length_cons] at hSp
  have hsz0 : (w.alloc (.cells #[.int .i64 0, .int .i64 0, .int .i64 0] 27)).heap.size = w.heap.size + 1 := by simp
  rw [hsz0] at hSp
  have hrow0 := heap2' w (.cells #[.int .i64 0, .int .i64 0, .int .i64 0] 27) (.cells ((x0 :: tl).map Value.string).toArray 9)
  have hB1 : Below w.heap.size w ((w.alloc (.cells #[.int .i64 0, .int .i64 0, .int .i64 0] 27)).alloc (.cells ((x0 :: tl).map Value.string).toArray 9)) := below_alloc' hB0
  have hE1 := hE.below hB1
  have R2 := Lib.hid hrow0.1
  have RW := Lib.hid hrow0.2
  have HSP := Lib.hid hSp
  have HB1 := Lib.hid hB1
  have HE1 := Lib.hid hE1
  have HWS := Lib.hid hws
  have htl : tl.length + 1 ≤ 4294967282 := by
    have h1 := congrArg List.length hwl
    rw [hlen, List.length_cons] at h1
    have h2 := Lib.countB_le spB (by decide) s.size s (Nat.le_refl _)
    omega
  clear hlen hB0 hmx hSp hE0 hwl hsz0 hrow0 hB1 hE1 hE hws
  obtain ⟨M, hMM⟩ : ∃ M, parseM s = M := ⟨_, rfl⟩
  rw [hMM] at hm1 hm2 ⊢
  clear hMM
  obtain ⟨op, hop⟩ : ∃ op, opOf x0 = op := ⟨_, rfl⟩
  rw [hop] at hm1 hm2
  have HM1 := Lib.hid hm1
  have HM2 := Lib.hid hm2
  clear hm1 hm2
  have HOP := Lib.hid (opI_calls x0)
  unfold OpPost at HOP
  rw [hop] at HOP
  clear hop
  have W0 : Hid (∀ j y, (x0 :: tl)[j]? = some y → ((w.alloc (.cells #[.int .i64 0, .int .i64 0, .int .i64 0] 27)).alloc (.cells ((x0 :: tl).map Value.string).toArray 9)).cell? ⟨w.heap.size + 1, j, none⟩ = some (.string y)) := Lib.hid fun j y hj => by
    rw [cell_of_row _ _ _ _ _ _ RW.out, List.getElem?_toArray, List.getElem?_map, hj]; rfl
  have hx0 := W0.out 0 x0 rfl
  have hlt1 : w.heap.size + 1 < ((w.alloc (.cells #[.int .i64 0, .int .i64 0, .int .i64 0] 27)).alloc (.cells ((x0 :: tl).map Value.string).toArray 9)).heap.size := (Array.getElem?_eq_some_iff.1 RW.out).1
  have HL1 := Lib.hid hlt1
  clear hlt1 RW
  go_enter Tryd.func41, Tryd.ntmps41
  go_wp2_with fail
  refine HSP.out.mono ?_
  rintro e w1 ⟨rfl, rfl⟩
  clear HSP
  generalize (w.alloc (.cells #[.int .i64 0, .int .i64 0, .int .i64 0] 27)).alloc (.cells ((x0 :: tl).map Value.string).toArray 9) = w1 at *
  have ht0 : (0 : Int) < (tl.length : Int) + 1 := by omega
  go_wp2_with fail
  refine (HOP.out w1).mono ?_
  rintro e w2 ⟨rfl, hb⟩
  have HB2 := Lib.hid (below_then HB1.out hb)
  have HE2 := Lib.hid (HE1.out.below hb)
  have r2 := row_under hb (by have := HL1.out; omega) R2.out
  have hz : w.heap.size + 1 < w2.heap.size := by have h1 := hb.size; have h2 := HL1.out; omega
  have W2 : Hid (∀ j y, tl[j]? = some y → w2.cell? ⟨w.heap.size + 1, j + 1, none⟩ = some (.string y)) := Lib.hid fun j y hj => cell_below hb (W0.out (j + 1) y (by simpa using hj))
  have HWT : Hid (∀ x ∈ tl, x.size ≤ 281474976710656) := Lib.hid fun x hx => HWS.out x (List.mem_cons_of_mem _ hx)
  have R2b := Lib.hid r2
  have HZ := Lib.hid hz
  clear hb HL1 R2 HB1 HE1 W0 hx0 HOP HWS hz
  by_cases hop : op < 0
  · obtain ⟨z0, z1, z2⟩ := cells3' R2b.out
    have f0 := frozen_of_row w2 w.heap.size 0 _ _ R2b.out
    have f1 := frozen_of_row w2 w.heap.size 1 _ _ R2b.out
    have f2 := frozen_of_row w2 w.heap.size 2 _ _ R2b.out
    obtain rfl := HM1.out hop
    have hzz : w.heap.size < w2.heap.size := by have := HZ.out; omega
    clear HM1 HM2 r2 ht0 htl HWT W2
    go_wp2_with fail
    refine bodyPost_ret (v := .tuple #[insVal ⟨0, 0, 0⟩, .bool false]) (by simp [results, Tryd.results41, go_sem, z0, z1, z2, f0, f1, f2, hzz]) rfl ⟨rfl, ?_⟩
    exact below_alloc' (((HB2.out.setCell (Nat.le_refl _) _).setCell (Nat.le_refl _) _).setCell (Nat.le_refl _) _)
  · have hM := HM2.out (by omega)
    have hop0 : (decide (op < 0)) = false := by simpa using hop
    obtain ⟨RL, hRL⟩ : ∃ RL, parseL tl 0 0 0 = RL := ⟨_, rfl⟩
    rw [hRL] at hM
    have HM := Lib.hid hM
    have HRL := Lib.hid (show parseL (tl.drop 0) 0 0 0 = RL from hRL)
    have R5 := Lib.hid (heap_alloc_new w2 (.cells #[.int .i64 op, .int .i64 0, .int .i64 0] 27))
    have HB3 := Lib.hid (below_alloc' (o := .cells #[.int .i64 op, .int .i64 0, .int .i64 0] 27) HB2.out)
    have hB3 : Below w2.heap.size w2 (w2.alloc (.cells #[.int .i64 op, .int .i64 0, .int .i64 0] 27)) := below_alloc' (below_refl w2)
    have HE3 := Lib.hid (HE2.out.below hB3)
    have HE4 := Lib.hid HE2.out.size
    have R2c := Lib.hid (row_under hB3 (by have := HZ.out; omega) R2b.out)
    have W3 : Hid (∀ j y, tl[j]? = some y → (w2.alloc (.cells #[.int .i64 op, .int .i64 0, .int .i64 0] 27)).cell? ⟨w.heap.size + 1, j + 1, none⟩ = some (.string y)) := Lib.hid fun j y hj => cell_below hB3 (W2.out j y hj)
    have HS3 : Hid ((w2.alloc (.cells #[.int .i64 op, .int .i64 0, .int .i64 0] 27)).heap.size = w2.heap.size + 1) := Lib.hid (by simp)
    clear HM1 HM2 hop hM hRL hB3 HE2 R2b W2 HB2 r2 ht0
    obtain ⟨m, hm⟩ : ∃ m, tl.length = m := ⟨_, rfl⟩
    rw [hm] at htl ⊢
    have HM0 := Lib.hid hm
    clear hm
    have htt : (1 : Int) ≤ (m : Int) + 1 := by omega
    by_cases hm0 : m = 0
    · subst hm0
      go_wp2_with fail
      generalize w2.alloc (.cells #[.int .i64 op, .int .i64 0, .int .i64 0] 27) = w3 at *
      go_loopw [24] (fun t wr => ∃ (k : Nat) (a b : Int), k ≤ 0 ∧ t = .int .i64 k ∧ Hid (parseL (tl.drop k) k a b = RL) ∧ Hid (wr.heap[w2.heap.size]? = some (.cells #[.int .i64 op, .int .i64 a, .int .i64 b] 27 (0, 0))) ∧ Hid (Below w2.heap.size w3 wr)) (fun t _ => 0 - (intOf t).toNat)
      case atStart => exact ⟨0, 0, 0, Nat.zero_le _, rfl, HRL, R5, Lib.hid (below_base' HS3.out)⟩
      case round =>
        obtain ⟨k, a, b, hk, rfl, HI, R5k, HBK⟩ := hrel
        have HEk := Lib.hid (HE3.out.under HBK.out HE4.out)
        obtain rfl : k = 0 := by omega
        have hk0 : 0 = 0 := rfl
        obtain rfl := parseL_end' HM0.out hk0 HI.out
        have HT := Lib.hid (textI_calls ⟨op, a, b⟩ wr HEk.out)
        have hcs := cells3' R5k.out
        obtain ⟨e0, e1, e2⟩ := hcs
        have hr2 := row_under HBK.out (by have := HZ.out; omega) R2c.out
        have HR2 := Lib.hid hr2
        have HBZ := Lib.hid (below_trans_under HB3.out HBK.out (by have := HZ.out; omega))
        have hlr := (Array.getElem?_eq_some_iff.1 R5k.out).1
        have HLR := Lib.hid hlr
        clear hr2 hlr
        unfold StrPost at HT
        go_wp2_with fail
        refine HT.out.mono ?_
        rintro e w4 ⟨rfl, hb4⟩
        have R2d := Lib.hid ((hb4.block _ (Array.getElem?_eq_some_iff.1 HR2.out).1).trans HR2.out)
        obtain ⟨z0, z1, z2⟩ := cells3' R2d.out
        have f0 := frozen_of_row w4 w.heap.size 0 _ _ R2d.out
        have f1 := frozen_of_row w4 w.heap.size 1 _ _ R2d.out
        have f2 := frozen_of_row w4 w.heap.size 2 _ _ R2d.out
        obtain ⟨g0, g1, g2⟩ := cells3' ((hb4.block _ HLR.out).trans R5k.out)
        have hne2 : ¬ w2.heap.size = w.heap.size := by have := HZ.out; omega
        have hne3 : ¬ w.heap.size = w2.heap.size := by have := HZ.out; omega
        have HB4 := Lib.hid (below_then HBZ.out hb4)
        clear hb4 HT e0 e1 e2
        by_cases hts : textM ⟨op, a, b⟩ = s
        · have hss := str_eq hts
          have HM5 : Hid (M = some ⟨op, a, b⟩) := Lib.hid (HM.out.trans (if_pos hts))
          generalize textM ⟨op, a, b⟩ = tx at *
          clear hts
          go_wp2_with fail
          refine bodyPost_ret (v := .tuple #[insVal ⟨op, a, b⟩, .bool true]) (by simp [results, Tryd.results41, go_sem, z0, z1, z2, f0, f1, f2, g0, g1, g2, hne2, hne3]) rfl ⟨by rw [HM5.out]; rfl, ?_⟩
          exact (((HB4.out.setCell (Nat.le_refl _) _).setCell (Nat.le_refl _) _).setCell (Nat.le_refl _) _)
        · have hss := str_ne hts
          have HM5 : Hid (M = none) := Lib.hid (HM.out.trans (if_neg hts))
          generalize textM ⟨op, a, b⟩ = tx at *
          clear hts
          go_wp2_with fail
          refine bodyPost_ret (v := .tuple #[insVal ⟨0, 0, 0⟩, .bool false]) (by simp [results, Tryd.results41, go_sem, z0, z1, z2, f0, f1, f2, g0, g1, g2, hne2, hne3]) rfl ⟨by rw [HM5.out]; rfl, ?_⟩
          exact (((HB4.out.setCell (Nat.le_refl _) _).setCell (Nat.le_refl _) _).setCell (Nat.le_refl _) _)
    · skip
      go_wp2_with fail
      generalize w2.alloc (.cells #[.int .i64 op, .int .i64 0, .int .i64 0] 27) = w3 at *
      go_loopw [24] (fun t wr => ∃ (k : Nat) (a b : Int), k ≤ m ∧ t = .int .i64 k ∧ Hid (parseL (tl.drop k) k a b = RL) ∧ Hid (wr.heap[w2.heap.size]? = some (.cells #[.int .i64 op, .int .i64 a, .int .i64 b] 27 (0, 0))) ∧ Hid (Below w2.heap.size w3 wr)) (fun t _ => m - (intOf t).toNat)
      case atStart => exact ⟨0, 0, 0, Nat.zero_le _, rfl, HRL, R5, Lib.hid (below_base' HS3.out)⟩
      case round =>
        obtain ⟨k, a, b, hk, rfl, HI, R5k, HBK⟩ := hrel
        have HEk := Lib.hid (HE3.out.under HBK.out HE4.out)
        by_cases hlt : k < m
        · obtain ⟨y, hy⟩ : ∃ y, tl[k]? = some y := ⟨_, List.getElem?_eq_getElem (by have := HM0.out; omega)⟩
          have hcy := cell_under HBK.out (by show w.heap.size + 1 < w2.heap.size; exact HZ.out) (W3.out k y hy)
          rw [Nat.add_comm k 1] at hcy
          have HY := Lib.hid hy
          have HD := Lib.hid (numParse_calls y (HWT.out y (List.mem_of_getElem? hy)) wr HEk.out)
          unfold NumPost at HD
          have hki : (k : Int) < (m : Int) := by omega
          clear hy
          cases hpn : parseN y with
          | none =>
            rw [hpn] at HD
            have HNN := Lib.hid (parseL_none HY.out HI.out hpn)
            clear hpn
            have hr2 := row_under HBK.out (by have := HZ.out; omega) R2c.out
            have HBZ := Lib.hid (below_trans_under HB3.out HBK.out (by have := HZ.out; omega))
            have HR2 := Lib.hid hr2
            clear hr2
            go_wp2_with fail
            refine HD.out.mono ?_
            rintro e w4 ⟨rfl, hb4⟩
            have R2d := Lib.hid ((hb4.block _ (Array.getElem?_eq_some_iff.1 HR2.out).1).trans HR2.out)
            obtain ⟨z0, z1, z2⟩ := cells3' R2d.out
            have f0 := frozen_of_row w4 w.heap.size 0 _ _ R2d.out
            have f1 := frozen_of_row w4 w.heap.size 1 _ _ R2d.out
            have f2 := frozen_of_row w4 w.heap.size 2 _ _ R2d.out
            have HB4 := Lib.hid (below_then HBZ.out hb4)
            clear hb4 HD HEk hcy
            have HM5 : Hid (M = none) := Lib.hid (HM.out.trans (by rw [HNN.out]; rfl))
            go_wp2_with fail
            refine bodyPost_ret (v := .tuple #[insVal ⟨0, 0, 0⟩, .bool false]) (by simp [results, Tryd.results41, go_sem, z0, z1, z2, f0, f1, f2]) rfl ⟨by rw [HM5.out]; rfl, ?_⟩
            exact (((HB4.out.setCell (Nat.le_refl _) _).setCell (Nat.le_refl _) _).setCell (Nat.le_refl _) _)
          | some n =>
            rw [hpn] at HD
            by_cases hk1 : 1 < k
            · have HNN := Lib.hid (parseL_many HY.out HI.out hpn hk1)
              have hk1i : (1 : Int) < (k : Int) := by omega
              clear hpn hk1
              have hr2 := row_under HBK.out (by have := HZ.out; omega) R2c.out
              have HBZ := Lib.hid (below_trans_under HB3.out HBK.out (by have := HZ.out; omega))
              have HR2 := Lib.hid hr2
              clear hr2
              go_wp2_with fail
              refine HD.out.mono ?_
              rintro e w4 ⟨rfl, hb4⟩
              have R2d := Lib.hid ((hb4.block _ (Array.getElem?_eq_some_iff.1 HR2.out).1).trans HR2.out)
              obtain ⟨z0, z1, z2⟩ := cells3' R2d.out
              have f0 := frozen_of_row w4 w.heap.size 0 _ _ R2d.out
              have f1 := frozen_of_row w4 w.heap.size 1 _ _ R2d.out
              have f2 := frozen_of_row w4 w.heap.size 2 _ _ R2d.out
              have HB4 := Lib.hid (below_then HBZ.out hb4)
              clear hb4 HD HEk hcy
              have HM5 : Hid (M = none) := Lib.hid (HM.out.trans (by rw [HNN.out]; rfl))
              go_wp2_with fail
              refine bodyPost_ret (v := .tuple #[insVal ⟨0, 0, 0⟩, .bool false]) (by simp [results, Tryd.results41, go_sem, z0, z1, z2, f0, f1, f2]) rfl ⟨by rw [HM5.out]; rfl, ?_⟩
              exact (((HB4.out.setCell (Nat.le_refl _) _).setCell (Nat.le_refl _) _).setCell (Nat.le_refl _) _)
            · by_cases hkz : k = 0
              · subst hkz
                have HJ := Lib.hid (parseL_zero HY.out HI.out hpn rfl)
                clear hpn
                go_wp2_with fail
                refine HD.out.mono ?_
                rintro e w4 ⟨rfl, hb4⟩
                have R5m := (hb4.block _ (Array.getElem?_eq_some_iff.1 R5k.out).1).trans R5k.out
                have HBm := below_trans_under HBK.out hb4 (by have := (Array.getElem?_eq_some_iff.1 R5k.out).1; omega)
                have R5n := Lib.hid (show (w4.setCell ⟨w2.heap.size, 1, none⟩ (.int .i64 n)).heap[w2.heap.size]? = some (.cells #[.int .i64 op, .int .i64 n, .int .i64 b] 27 (0, 0)) by rw [heap_setCell_same _ _ _ _ _ _ R5m]; rfl)
                have HBn := Lib.hid (HBm.setCell (p := ⟨w2.heap.size, 1, none⟩) (Nat.le_refl _) (.int .i64 n))
                have cz := cell_of_row w4 w2.heap.size 1 _ _ _ R5m
                have fz := frozen_of_row w4 w2.heap.size 1 _ _ R5m
                clear hb4 R5m HBm HD HEk hcy
                go_wp2_with fail
                go_roundw
                case rel => exact ⟨0+1, n, b, by omega, by go_num, HJ, R5n, HBn⟩
                case measure => simp [intOf]; omega
              · obtain rfl : k = 1 := by omega
                have HJ := Lib.hid (parseL_one HY.out HI.out hpn rfl)
                clear hpn
                go_wp2_with fail
                refine HD.out.mono ?_
                rintro e w4 ⟨rfl, hb4⟩
                have R5m := (hb4.block _ (Array.getElem?_eq_some_iff.1 R5k.out).1).trans R5k.out
                have HBm := below_trans_under HBK.out hb4 (by have := (Array.getElem?_eq_some_iff.1 R5k.out).1; omega)
                have R5n := Lib.hid (show (w4.setCell ⟨w2.heap.size, 2, none⟩ (.int .i64 n)).heap[w2.heap.size]? = some (.cells #[.int .i64 op, .int .i64 a, .int .i64 n] 27 (0, 0)) by rw [heap_setCell_same _ _ _ _ _ _ R5m]; rfl)
                have HBn := Lib.hid (HBm.setCell (p := ⟨w2.heap.size, 2, none⟩) (Nat.le_refl _) (.int .i64 n))
                have cz := cell_of_row w4 w2.heap.size 2 _ _ _ R5m
                have fz := frozen_of_row w4 w2.heap.size 2 _ _ R5m
                clear hb4 R5m HBm HD HEk hcy
                go_wp2_with fail
                go_roundw
                case rel => exact ⟨1+1, a, n, by omega, by go_num, HJ, R5n, HBn⟩
                case measure => simp [intOf]; omega
        · obtain rfl : k = m := by omega
          have hk0 : k = k := rfl
          clear hlt hk
          obtain rfl := parseL_end' HM0.out hk0 HI.out
          have HT := Lib.hid (textI_calls ⟨op, a, b⟩ wr HEk.out)
          have hcs := cells3' R5k.out
          obtain ⟨e0, e1, e2⟩ := hcs
          have hr2 := row_under HBK.out (by have := HZ.out; omega) R2c.out
          have HR2 := Lib.hid hr2
          have HBZ := Lib.hid (below_trans_under HB3.out HBK.out (by have := HZ.out; omega))
          have hlr := (Array.getElem?_eq_some_iff.1 R5k.out).1
          have HLR := Lib.hid hlr
          clear hr2 hlr
          unfold StrPost at HT
          go_wp2_with fail
          refine HT.out.mono ?_
          rintro e w4 ⟨rfl, hb4⟩
          have R2d := Lib.hid ((hb4.block _ (Array.getElem?_eq_some_iff.1 HR2.out).1).trans HR2.out)
          obtain ⟨z0, z1, z2⟩ := cells3' R2d.out
          have f0 := frozen_of_row w4 w.heap.size 0 _ _ R2d.out
          have f1 := frozen_of_row w4 w.heap.size 1 _ _ R2d.out
          have f2 := frozen_of_row w4 w.heap.size 2 _ _ R2d.out
          obtain ⟨g0, g1, g2⟩ := cells3' ((hb4.block _ HLR.out).trans R5k.out)
          have hne2 : ¬ w2.heap.size = w.heap.size := by have := HZ.out; omega
          have hne3 : ¬ w.heap.size = w2.heap.size := by have := HZ.out; omega
          have HB4 := Lib.hid (below_then HBZ.out hb4)
          clear hb4 HT e0 e1 e2
          by_cases hts : textM ⟨op, a, b⟩ = s
          · have hss := str_eq hts
            have HM5 : Hid (M = some ⟨op, a, b⟩) := Lib.hid (HM.out.trans (if_pos hts))
            generalize textM ⟨op, a, b⟩ = tx at *
            clear hts
            go_wp2_with fail
            refine bodyPost_ret (v := .tuple #[insVal ⟨op, a, b⟩, .bool true]) (by simp [results, Tryd.results41, go_sem, z0, z1, z2, f0, f1, f2, g0, g1, g2, hne2, hne3]) rfl ⟨by rw [HM5.out]; rfl, ?_⟩
            exact (((HB4.out.setCell (Nat.le_refl _) _).setCell (Nat.le_refl _) _).setCell (Nat.le_refl _) _)
          · have hss := str_ne hts
            have HM5 : Hid (M = none) := Lib.hid (HM.out.trans (if_neg hts))
            generalize textM ⟨op, a, b⟩ = tx at *
            clear hts
            go_wp2_with fail
            refine bodyPost_ret (v := .tuple #[insVal ⟨0, 0, 0⟩, .bool false]) (by simp [results, Tryd.results41, go_sem, z0, z1, z2, f0, f1, f2, g0, g1, g2, hne2, hne3]) rfl ⟨by rw [HM5.out]; rfl, ?_⟩
            exact (((HB4.out.setCell (Nat.le_refl _) _).setCell (Nat.le_refl _) _).setCell (Nat.le_refl _) _)
end Go.Proofs.YtdilmfnijkjiaaaDoor.K
