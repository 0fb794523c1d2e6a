import Derived.Test.YtdilmfnijkjiaaaDoorK70
import Derived.Test.YtdilmfnijkjiaaaDoorK59
import Derived.Test.YtdilmfnijkjiaaaDoorKArg3
import Derived.Deep.RegionHeld3
import Derived.Deep.RegionWith
set_option maxRecDepth 100000
set_option linter.unusedSimpArgs false
set_option linter.unusedVariables false
namespace Go.Proofs.YtdilmfnijkjiaaaDoor.K
open Go.RowKit
theorem parts_le4 {ts : List Ty} (h : ∀ t ∈ ts, t.parts.length * 8 ≤ 140737488351232) (a : Int) : (partsOf (allOf ts) a).length * 8 ≤ 140737488351232 := by
  unfold partsOf
  split
  · rename_i hin
    have hm : tyAt (allOf ts) a ∈ allOf ts := by
      unfold tyAt
      rw [List.getD_eq_getElem?_getD, List.getElem?_eq_getElem (by omega)]
      exact List.getElem_mem _
    simp only [allOf, List.mem_cons] at hm
    rcases hm with e | e | e
    · simp only [allOf] at e ⊢; rw [e]; simp [base0]
    · simp only [allOf] at e ⊢; rw [e]; simp [base1]
    · have := h _ e
      simp only [allOf] at this ⊢
      omega
  · simp
theorem InsSl.get {w : World} {A : Option Addr} {c : Nat} {xs : List Ins} (h : InsSl w A c xs) (k : Nat) (hk : k < xs.length) :
    ∃ ad i, A = some ad ∧ xs[k]? = some i ∧ w.cell? (ad.add (k * 3)) = some (.int .i64 i.op) ∧ w.cell? ⟨(ad.add (k * 3)).block, (ad.add (k * 3)).off + 1, none⟩ = some (.int .i64 i.a) ∧ w.cell? ⟨(ad.add (k * 3)).block, (ad.add (k * 3)).off + 2, none⟩ = some (.int .i64 i.b) := by
  cases A with
  | none =>
    have h1 := h.1
    have h2 := h.2.2.1 rfl
    omega
  | some ad =>
    have e := List.getElem?_eq_getElem hk
    obtain ⟨c0, c1, c2⟩ := h.2.2.2 ad rfl k _ e
    rw [add_field _ _ _ (by omega)] at c1 c2
    exact ⟨ad, _, rfl, e, c0, c1, c2⟩
set_option maxHeartbeats 8000000 in
theorem instrRight_calls (A : Option Addr) (c : Nat) (ts : List Ty) (F : Option Addr) (fc : Nat) (fs : List Fn) (lo cd : Int) (LA : Option Addr) (lc : Nat) (l : List Ins) (w : World) (hE : Env w)
    (hT : TySl w A c ts) (hm : ts.length * 40 ≤ 140737488351232) (hp : ∀ t ∈ ts, t.parts.length * 8 ≤ 140737488351232) (ho : ∀ t ∈ ts, t.of ≤ 9223372036854775807) (hF : FnSl w F fc fs) (hfm : fs.length * 8 ≤ 140737488351232) (hfi : ∀ f ∈ fs, FnIn f)
    (hlo : lo ≤ 9223372036854775807 ∧ -9223372036854775808 ≤ lo) (hcd : cd ≤ 9223372036854775807 ∧ -9223372036854775808 ≤ cd) (hL : InsSl w LA lc l) (hlm : l.length * 24 ≤ 140737488351232) (hli : ∀ t ∈ l, InsIn t) :
    Calls Tryd.prog 15 #[.agg #[.slice A ts.length c, .slice F fs.length fc, .int .i64 lo, .int .i64 cd], .slice LA l.length lc] w fun e w' => e = .returned (.bool true) ∧ Below w.heap.size w w' := by
  have hB0 : Below w.heap.size w (w.alloc (.cells #[.slice A ts.length c, .slice F fs.length fc, .int .i64 lo, .int .i64 cd] 76)) := below_alloc' (below_refl w)
  have HS := Lib.hid (shownI_calls _ (hE.below hB0))
  have R0 := Lib.hid (heap_alloc_new w (.cells #[.slice A ts.length c, .slice F fs.length fc, .int .i64 lo, .int .i64 cd] 76))
  have HT := Lib.hid (hT.below hB0)
  have HL := Lib.hid (hL.below hB0)
  have HB0 := Lib.hid hB0
  have HM := Lib.hid hm
  have HP := Lib.hid hp
  have HO := Lib.hid ho
  have HLI := Lib.hid hli
  have hll : l.length ≤ 9223372036854775807 := by omega
  clear hB0 hT hL hm hp ho hF hfm hfi hlo hcd hE hlm hli
  go_enter Tryd.func15, Tryd.ntmps15
  go_wp2_with fail
  refine HS.out.mono ?_
  rintro e w1 ⟨rfl, hb⟩
  have HB1 := Lib.hid (below_then HB0.out hb)
  have HT1 := Lib.hid (HT.out.below hb)
  have HL1 := Lib.hid (HL.out.below hb)
  obtain ⟨c0, c1, c2, c3⟩ := cells4' ((hb.block _ (Array.getElem?_eq_some_iff.1 R0.out).1).trans R0.out)
  clear hb HS HT HL R0 HB0
  have HSC := Lib.hid (scopes4_calls A c ts F fc fs.length lo cd w1 HT1.out HM.out HP.out HO.out)
  unfold Sc4Post at HSC
  go_wp2_with fail
  refine HSC.out.mono ?_
  rintro e w2 ⟨tv, ok, rfl, hb, hok⟩
  have HB2 := Lib.hid (below_then HB1.out hb)
  have HT2 := Lib.hid (HT1.out.below hb)
  have HL2 := Lib.hid (HL1.out.below hb)
  have HOK := Lib.hid hok
  clear hb HSC HT1 HL1 HB1 hok c0 c1 c2 c3
  cases ok with
  | false =>
    go_wp2_with fail
    go_ret
    exact ⟨rfl, below_alloc' (below_alloc' HB2.out)⟩
  | true =>
    obtain ⟨g, rfl, hty, htab⟩ := HOK.out rfl
    clear HOK
    have hrow := heap2' w2 (.cells #[.pointer (some ⟨g, 0, none⟩), .slice F fs.length fc, .int .i64 lo, .int .i64 cd] 34) (.cells #[.slice A ts.length c, .slice F fs.length fc, .int .i64 lo, .int .i64 cd] 36)
    have hB3 : Below w2.heap.size w2 ((w2.alloc (.cells #[.pointer (some ⟨g, 0, none⟩), .slice F fs.length fc, .int .i64 lo, .int .i64 cd] 34)).alloc (.cells #[.slice A ts.length c, .slice F fs.length fc, .int .i64 lo, .int .i64 cd] 36)) := below_alloc' (below_alloc' (below_refl w2))
    have R34 := Lib.hid hrow.1
    have R36 := Lib.hid hrow.2
    have HB3 := Lib.hid (below_then HB2.out hB3)
    have HT3 := Lib.hid (HT2.out.below hB3)
    have HL3 := Lib.hid (HL2.out.below hB3)
    have HTB := Lib.hid (htab.tab.below hB3)
    have HTY := Lib.hid hty
    clear hrow hB3 hty htab HT2 HL2 HB2
    go_wp2_with fail
    generalize (w2.alloc (.cells #[.pointer (some ⟨g, 0, none⟩), .slice F fs.length fc, .int .i64 lo, .int .i64 cd] 34)).alloc (.cells #[.slice A ts.length c, .slice F fs.length fc, .int .i64 lo, .int .i64 cd] 36) = w3 at *
    go_loopw [9] (fun t wr => ∃ k : Nat, k ≤ l.length ∧ t = .int .i64 k ∧ Hid (Below w3.heap.size w3 wr)) (fun t _ => l.length - (intOf t).toNat)
    case atStart => exact ⟨0, Nat.zero_le _, rfl, Lib.hid (below_refl w3)⟩
    case round =>
      obtain ⟨k, hk, rfl, HBK⟩ := hrel
      by_cases hlt : k < l.length
      · obtain ⟨ad, i, rfl, hi, d0, d1, d2⟩ := (HL3.out.below HBK.out).get k hlt
        have hin := HLI.out i (List.mem_of_getElem? hi)
        obtain ⟨op, a, b⟩ := i
        dsimp only at d0 d1 d2
        have HR : Hid (∀ W, Below wr.heap.size wr W → Calls Tryd.prog 58 #[inV op a b, scV g F fs.length fc lo cd] W fun e w' => e = .returned (.bool (rightR (rowOf op) (allOf ts) fs.length lo cd a b)) ∧ Below W.heap.size W w') := Lib.hid fun W h => right_calls op a b g F fs.length fc lo cd (allOf ts) W ((HTB.out.below HBK.out).below h) (by have := parts_le4 HP.out a; omega)
        have HR4 : Hid (∀ W, Below wr.heap.size wr W → Calls Tryd.prog 59 #[.agg #[.int .i64 op, .int .i64 a, .int .i64 b], .agg #[.slice A ts.length c, .slice F fs.length fc, .int .i64 lo, .int .i64 cd]] W fun e w' => e = .returned (.bool (rightR (rowOf op) (allOf ts) fs.length lo cd a b)) ∧ Below W.heap.size W w') := Lib.hid fun W h => right4_calls op a b A c ts F fs.length fc lo cd W ((HT3.out.below HBK.out).below h) HTY.out hin.2.1
        generalize rightR (rowOf op) (allOf ts) fs.length lo cd a b = v at *
        obtain ⟨e0, e1, e2, e3⟩ := cells4' ((HBK.out.block _ (Array.getElem?_eq_some_iff.1 R34.out).1).trans R34.out)
        obtain ⟨f0, f1, f2, f3⟩ := cells4' ((HBK.out.block _ (Array.getElem?_eq_some_iff.1 R36.out).1).trans R36.out)
        have hki : (k : Int) < (l.length : Int) := by omega
        clear hi hin
        have HKS : Hid (∀ w', Below wr.heap.size wr w' → (w'.cell? (ad.add (k * 3)) = some (.int .i64 op) ∧ w'.cell? ⟨(ad.add (k * 3)).block, (ad.add (k * 3)).off + 1, none⟩ = some (.int .i64 a) ∧ w'.cell? ⟨(ad.add (k * 3)).block, (ad.add (k * 3)).off + 2, none⟩ = some (.int .i64 b) ∧ w'.cell? ⟨w2.heap.size, 0, none⟩ = some (.pointer (some ⟨g, 0, none⟩)) ∧ w'.cell? ⟨w2.heap.size, 1, none⟩ = some (.slice F fs.length fc) ∧ w'.cell? ⟨w2.heap.size, 2, none⟩ = some (.int .i64 lo) ∧ w'.cell? ⟨w2.heap.size, 3, none⟩ = some (.int .i64 cd) ∧ w'.cell? ⟨w2.heap.size + 1, 0, none⟩ = some (.slice A ts.length c) ∧ w'.cell? ⟨w2.heap.size + 1, 1, none⟩ = some (.slice F fs.length fc) ∧ w'.cell? ⟨w2.heap.size + 1, 2, none⟩ = some (.int .i64 lo) ∧ w'.cell? ⟨w2.heap.size + 1, 3, none⟩ = some (.int .i64 cd) ∧ Below wr.heap.size wr w')) := Lib.hid fun w' h => ⟨cell_below h d0, cell_below h d1, cell_below h d2, cell_below h e0, cell_below h e1, cell_below h e2, cell_below h e3, cell_below h f0, cell_below h f1, cell_below h f2, cell_below h f3, h⟩
        go_wp2_with fail
        go_region_held3 (fun w' => (w'.cell? (ad.add (k * 3)) = some (.int .i64 op) ∧ w'.cell? ⟨(ad.add (k * 3)).block, (ad.add (k * 3)).off + 1, none⟩ = some (.int .i64 a) ∧ w'.cell? ⟨(ad.add (k * 3)).block, (ad.add (k * 3)).off + 2, none⟩ = some (.int .i64 b) ∧ w'.cell? ⟨w2.heap.size, 0, none⟩ = some (.pointer (some ⟨g, 0, none⟩)) ∧ w'.cell? ⟨w2.heap.size, 1, none⟩ = some (.slice F fs.length fc) ∧ w'.cell? ⟨w2.heap.size, 2, none⟩ = some (.int .i64 lo) ∧ w'.cell? ⟨w2.heap.size, 3, none⟩ = some (.int .i64 cd) ∧ w'.cell? ⟨w2.heap.size + 1, 0, none⟩ = some (.slice A ts.length c) ∧ w'.cell? ⟨w2.heap.size + 1, 1, none⟩ = some (.slice F fs.length fc) ∧ w'.cell? ⟨w2.heap.size + 1, 2, none⟩ = some (.int .i64 lo) ∧ w'.cell? ⟨w2.heap.size + 1, 3, none⟩ = some (.int .i64 cd) ∧ Below wr.heap.size wr w'))
          (first
            | exact HKS.out _ (below_refl _)
            | exact HKS.out _ (below_drew' (below_refl _))
            | (go_split_ands; exact HKS.out _ (by assumption))
            | (go_split_ands; exact HKS.out _ (below_then (by assumption) (by assumption)))
            | (go_keep; done))
          (first
            | (go_at_call 58; go_split_ands; refine (HR.out _ (by assumption)).mono ?_; rintro e w8 ⟨rfl, hb8⟩)
            | (go_at_call 59; go_split_ands; refine (HR4.out _ (by assumption)).mono ?_; rintro e w9 ⟨rfl, hb9⟩))
        have hcur : Below wr.heap.size wr w9 := by go_split_ands; assumption
        have HBZ := Lib.hid (below_then HBK.out hcur)
        clear hcur
        go_wp2_with fail
        go_roundw
        case rel => exact ⟨k + 1, by omega, by go_num, HBZ⟩
        case measure => simp [intOf]; omega
      · obtain rfl : k = l.length := by omega
        go_wp2_with fail
        go_ret
        exact ⟨rfl, below_then HB3.out HBK.out⟩
end Go.Proofs.YtdilmfnijkjiaaaDoor.K
