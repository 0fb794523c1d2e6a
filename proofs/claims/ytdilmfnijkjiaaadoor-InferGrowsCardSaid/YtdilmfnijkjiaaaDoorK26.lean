import Derived.Test.YtdilmfnijkjiaaaDoorK23
import Derived.Test.YtdilmfnijkjiaaaDoorK24
set_option maxRecDepth 100000
set_option linter.unusedSimpArgs false
set_option linter.unusedVariables false
namespace Go.Proofs.YtdilmfnijkjiaaaDoor.K
open Go.RowKit
/-- What Step answers: the locals, the stack, the error. -/
def stepM (TS : List Ty) (fs : List Fn) (lo cd op a b res : Int) (ls st : List Int) : List Int × List Int × Int :=
  if rightR (rowOf op) TS fs.length lo cd a b = false ∨ (ls.length : Int) ≠ lo then ([], [], 1)
  else if (st.length : Int) < (effR (rowOf op) TS fs op a b).1 then ([], [], 13)
  else if 24 < (st.length : Int) - (effR (rowOf op) TS fs op a b).1 + (effR (rowOf op) TS fs op a b).2 then ([], [], 14)
  else
    (localsF op a ls (st.drop (st.length - (needF TS fs op a b res).length)),
     st.take (st.length - (needF TS fs op a b res).length) ++ leaveF TS fs op a b ls (st.drop (st.length - (needF TS fs op a b res).length)),
     errF TS fs op a b res ls (st.drop (st.length - (needF TS fs op a b res).length)))
def StepPost (w : World) (r : List Int × List Int × Int) (e : Ending) (w' : World) : Prop :=
  ∃ V1 V2, e = .returned (.tuple #[frV V1 V2, .int .i64 r.2.2]) ∧ OwnFr w' w.heap.size V1 V2 r.1 r.2.1 ∧ Below w.heap.size w w'
theorem OwnFr.nil (w : World) (b : Nat) : OwnFr w b (.slice none 0 0) (.slice none 0 0) [] [] := ⟨OwnInts.nil w b, OwnInts.nil w b, .inl rfl⟩
theorem heap4 (w : World) (o1 o2 o3 o4 : Obj) : ((((w.alloc o1).alloc o2).alloc o3).alloc o4).heap[w.heap.size]? = some o1 ∧ ((((w.alloc o1).alloc o2).alloc o3).alloc o4).heap[w.heap.size + 1]? = some o2 ∧ ((((w.alloc o1).alloc o2).alloc o3).alloc o4).heap[w.heap.size + 2]? = some o3 ∧ ((((w.alloc o1).alloc o2).alloc o3).alloc o4).heap[w.heap.size + 3]? = some o4 := by
  have e1 : (w.alloc o1).heap.size = w.heap.size + 1 := by simp
  have e2 : ((w.alloc o1).alloc o2).heap.size = w.heap.size + 2 := by simp
  have e3 : (((w.alloc o1).alloc o2).alloc o3).heap.size = w.heap.size + 3 := by simp
  have k3 := heap_alloc_new (((w.alloc o1).alloc o2).alloc o3) o4
  have k2 := heap_alloc_new ((w.alloc o1).alloc o2) o3
  have k1 := heap_alloc_new (w.alloc o1) o2
  rw [e3] at k3
  rw [e2] at k2
  rw [e1] at k1
  exact ⟨(heap_alloc_old _ o4 (by omega)).trans ((heap_alloc_old _ o3 (by omega)).trans ((heap_alloc_old _ o2 (by omega)).trans (heap_alloc_new w o1))), (heap_alloc_old _ o4 (by omega)).trans ((heap_alloc_old _ o3 (by omega)).trans k1), (heap_alloc_old _ o4 (by omega)).trans k2, k3⟩
theorem eff_bound {op a b : Int} {TS : List Ty} {fs : List Fn} {lo cd : Int} {w : World} {A : Option Addr} {c : Nat} (hF : FnSl w A c fs) (hpl : (partsOf TS a).length * 8 ≤ 140737488355328) (hr : rightR (rowOf op) TS fs.length lo cd a b = true) :
    0 ≤ (effR (rowOf op) TS fs op a b).1 ∧ (effR (rowOf op) TS fs op a b).1 ≤ 17592186044500 ∧ 0 ≤ (effR (rowOf op) TS fs op a b).2 ∧ (effR (rowOf op) TS fs op a b).2 ≤ 2 := by
  have hin := right_in hr
  have hfn : ∀ k : Int, 0 ≤ k → k < fs.length → (fnAt fs k).params.length * 8 ≤ 140737488351232 := fun k h0 h1 => by
    obtain ⟨_, _, _, _, _, _, _, h⟩ := hF.get k h0 h1
    exact h
  by_cases h20 : op = 20
  · subst h20
    have h := right_func hr
    have := hfn a h.1 h.2
    refine ⟨?_, ?_, ?_, ?_⟩ <;> simp [effR] <;> omega
  by_cases h29 : op = 29
  · subst h29
    have h := right_made hr
    have := hfn b h.2.1 h.2.2
    refine ⟨?_, ?_, ?_, ?_⟩ <;> simp [effR] <;> omega
  by_cases h22 : op = 22
  · subst h22
    refine ⟨?_, ?_, ?_, ?_⟩ <;> simp [effR] <;> omega
  by_cases h30 : op = 30
  · subst h30
    refine ⟨?_, ?_, ?_, ?_⟩ <;> simp [effR] <;> omega
  unfold effR
  rw [if_neg h20, if_neg h22, if_neg h29, if_neg h30]
  rcases op_cases hin.1 hin.2 with h | h | h | h | h | h | h | h | h | h | h | h | h | h | h | h | h | h | h | h | h | h | h | h | h | h | h | h | h | h | h | h | h | h | h | h | h | h <;> subst h <;> decide
set_option maxHeartbeats 1000000 in
theorem step_no (op a b : Int) (g : Nat) (A : Option Addr) (c : Nat) (lo cd : Int) (TS : List Ty) (fs : List Fn) (res : Int) (LA : Option Addr) (lc : Nat) (ls : List Int) (SA : Option Addr) (sc : Nat) (st : List Int) (w : World) (hT : Tab w g TS) (hF : FnSl w A c fs) (hpl : (partsOf TS a).length * 8 ≤ 140737488355328) (hsz : st.length ≤ 17592186044300) (hr : rightR (rowOf op) TS fs.length lo cd a b = false) :
    Calls Tryd.prog 22 #[inV op a b, scV g A fs.length c lo cd, .int .i64 res, frV (.slice LA ls.length lc) (.slice SA st.length sc)] w (StepPost w ([], [], 1)) := by
  have HB0 := Lib.hid (below_alloc' (o := .cells #[.slice none 0 0, .slice none 0 0] 30) (below_alloc' (o := .cells #[.slice LA ls.length lc, .slice SA st.length sc] 30) (below_alloc' (o := .cells #[.pointer (some ⟨g, 0, none⟩), .slice A fs.length c, .int .i64 lo, .int .i64 cd] 34) (below_alloc' (o := .cells #[.int .i64 op, .int .i64 a, .int .i64 b] 27) (below_refl w)))))
  have HR := Lib.hid (right_calls op a b g A fs.length c lo cd TS _ (hT.below HB0.out) hpl)
  rw [hr] at HR
  have HT := Lib.hid hT
  have HF := Lib.hid hF
  have HPL := Lib.hid hpl
  have HRR := Lib.hid hr
  clear hT hF hr hpl
  unfold frV
  go_enter Tryd.func22, Tryd.ntmps22
  go_wp2_with fail
  refine HR.out.mono ?_
  rintro e w1 ⟨rfl, hb⟩
  have HB1 := Lib.hid (below_then HB0.out hb)
  obtain ⟨hc, hf⟩ := bcell hb
  have hz : w.heap.size + 3 < w1.heap.size := by have := hb.size; simp at this; omega
  have hz2 : w.heap.size + 2 < w1.heap.size := by omega
  have hz1 : w.heap.size + 1 < w1.heap.size := by omega
  have hz0 : w.heap.size < w1.heap.size := by omega
  clear hb
  go_wp2
  exact bodyPost_ret (v := .tuple #[.agg #[.slice none 0 0, .slice none 0 0], .int .i64 1]) (by simp [results, Tryd.results22, go_sem, hc, hf, hz, hz1, hz2, hz0]) rfl ⟨_, _, rfl, OwnFr.nil _ _, below_set' (below_set' HB1.out (by simp; omega)) (by simp; omega)⟩
set_option maxHeartbeats 1000000 in
theorem step_len (op a b : Int) (g : Nat) (A : Option Addr) (c : Nat) (lo cd : Int) (TS : List Ty) (fs : List Fn) (res : Int) (LA : Option Addr) (lc : Nat) (ls : List Int) (SA : Option Addr) (sc : Nat) (st : List Int) (w : World) (hT : Tab w g TS) (hF : FnSl w A c fs) (hpl : (partsOf TS a).length * 8 ≤ 140737488355328) (hsz : st.length ≤ 17592186044300) (hr : rightR (rowOf op) TS fs.length lo cd a b = true) (hl : (ls.length : Int) ≠ lo) :
    Calls Tryd.prog 22 #[inV op a b, scV g A fs.length c lo cd, .int .i64 res, frV (.slice LA ls.length lc) (.slice SA st.length sc)] w (StepPost w ([], [], 1)) := by
  have HB0 := Lib.hid (below_alloc' (o := .cells #[.slice none 0 0, .slice none 0 0] 30) (below_alloc' (o := .cells #[.slice LA ls.length lc, .slice SA st.length sc] 30) (below_alloc' (o := .cells #[.pointer (some ⟨g, 0, none⟩), .slice A fs.length c, .int .i64 lo, .int .i64 cd] 34) (below_alloc' (o := .cells #[.int .i64 op, .int .i64 a, .int .i64 b] 27) (below_refl w)))))
  have HR := Lib.hid (right_calls op a b g A fs.length c lo cd TS _ (hT.below HB0.out) hpl)
  rw [hr] at HR
  have HT := Lib.hid hT
  have HF := Lib.hid hF
  have HPL := Lib.hid hpl
  have HRR := Lib.hid hr
  clear hT hF hr hpl
  have hne : ((ls.length : Int) == lo) = false := beq_eq_false_iff_ne.2 hl
  clear hl
  unfold frV
  go_enter Tryd.func22, Tryd.ntmps22
  go_wp2_with fail
  refine HR.out.mono ?_
  rintro e w1 ⟨rfl, hb⟩
  have HB1 := Lib.hid (below_then HB0.out hb)
  obtain ⟨hc, hf⟩ := bcell hb
  have hz : w.heap.size + 3 < w1.heap.size := by have := hb.size; simp at this; omega
  have hz2 : w.heap.size + 2 < w1.heap.size := by omega
  have hz1 : w.heap.size + 1 < w1.heap.size := by omega
  have hz0 : w.heap.size < w1.heap.size := by omega
  clear hb
  go_wp2
  exact bodyPost_ret (v := .tuple #[.agg #[.slice none 0 0, .slice none 0 0], .int .i64 1]) (by simp [results, Tryd.results22, go_sem, hc, hf, hz, hz1, hz2, hz0]) rfl ⟨_, _, rfl, OwnFr.nil _ _, below_set' (below_set' HB1.out (by simp; omega)) (by simp; omega)⟩
set_option maxHeartbeats 1000000 in
theorem step_under (op a b : Int) (g : Nat) (A : Option Addr) (c : Nat) (lo cd : Int) (TS : List Ty) (fs : List Fn) (res : Int) (LA : Option Addr) (lc : Nat) (ls : List Int) (SA : Option Addr) (sc : Nat) (st : List Int) (w : World) (hT : Tab w g TS) (hF : FnSl w A c fs) (hpl : (partsOf TS a).length * 8 ≤ 140737488355328) (hsz : st.length ≤ 17592186044300) (hr : rightR (rowOf op) TS fs.length lo cd a b = true) (hl : lo = (ls.length : Int)) (hu : (st.length : Int) < (effR (rowOf op) TS fs op a b).1) :
    Calls Tryd.prog 22 #[inV op a b, scV g A fs.length c lo cd, .int .i64 res, frV (.slice LA ls.length lc) (.slice SA st.length sc)] w (StepPost w ([], [], 13)) := by
  have HB0 := Lib.hid (below_alloc' (o := .cells #[.slice none 0 0, .slice none 0 0] 30) (below_alloc' (o := .cells #[.slice LA ls.length lc, .slice SA st.length sc] 30) (below_alloc' (o := .cells #[.pointer (some ⟨g, 0, none⟩), .slice A fs.length c, .int .i64 lo, .int .i64 cd] 34) (below_alloc' (o := .cells #[.int .i64 op, .int .i64 a, .int .i64 b] 27) (below_refl w)))))
  have HR := Lib.hid (right_calls op a b g A fs.length c lo cd TS _ (hT.below HB0.out) hpl)
  rw [hr] at HR
  have HT := Lib.hid hT
  have HF := Lib.hid hF
  have HPL := Lib.hid hpl
  have HRR := Lib.hid hr
  clear hT hF hr hpl
  subst hl
  have H0 := eff_bound HF.out HPL.out HRR.out
  unfold frV
  go_enter Tryd.func22, Tryd.ntmps22
  go_wp2_with fail
  refine HR.out.mono ?_
  rintro e w1 ⟨rfl, hb⟩
  have HB1 := Lib.hid (below_then HB0.out hb)
  obtain ⟨hc, hf⟩ := bcell hb
  have hz : w.heap.size + 3 < w1.heap.size := by have := hb.size; simp at this; omega
  have hz2 : w.heap.size + 2 < w1.heap.size := by omega
  have hz1 : w.heap.size + 1 < w1.heap.size := by omega
  have hz0 : w.heap.size < w1.heap.size := by omega
  clear hb
  go_wp2_with fail
  refine (effect_calls op a b g A c (ls.length : Int) cd TS fs _ (HT.out.below HB1.out) (HF.out.below HB1.out) HPL.out).mono ?_
  rintro e w2 ⟨rfl, hb⟩
  have HB2 := Lib.hid (below_then HB1.out hb)
  obtain ⟨hc2, hf2⟩ := bcell hb
  have hy3 : w.heap.size + 3 < w2.heap.size := by have := hb.size; omega
  have hy2 : w.heap.size + 2 < w2.heap.size := by omega
  have hy1 : w.heap.size + 1 < w2.heap.size := by omega
  have hy0 : w.heap.size < w2.heap.size := by omega
  clear hb
  have HE : effB (rowOf op) TS fs (ls.length : Int) cd op a b = effR (rowOf op) TS fs op a b := by unfold effB; rw [if_pos HRR.out]
  rw [HE]
  generalize effR (rowOf op) TS fs op a b = ee at *
  obtain ⟨tk, lv⟩ := ee
  dsimp only at *
  go_wp2
  exact bodyPost_ret (v := .tuple #[.agg #[.slice none 0 0, .slice none 0 0], .int .i64 13]) (by simp [results, Tryd.results22, go_sem, hc, hf, hz, hz1, hz2, hz0, hc2, hf2, hy3, hy2, hy1, hy0]) rfl ⟨_, _, rfl, OwnFr.nil _ _, below_set' (below_set' HB2.out (by simp; omega)) (by simp; omega)⟩
set_option maxHeartbeats 1000000 in
theorem step_over (op a b : Int) (g : Nat) (A : Option Addr) (c : Nat) (lo cd : Int) (TS : List Ty) (fs : List Fn) (res : Int) (LA : Option Addr) (lc : Nat) (ls : List Int) (SA : Option Addr) (sc : Nat) (st : List Int) (w : World) (hT : Tab w g TS) (hF : FnSl w A c fs) (hpl : (partsOf TS a).length * 8 ≤ 140737488355328) (hsz : st.length ≤ 17592186044300) (hr : rightR (rowOf op) TS fs.length lo cd a b = true) (hl : lo = (ls.length : Int)) (hu : (effR (rowOf op) TS fs op a b).1 ≤ (st.length : Int)) (ho : 24 < (st.length : Int) - (effR (rowOf op) TS fs op a b).1 + (effR (rowOf op) TS fs op a b).2) :
    Calls Tryd.prog 22 #[inV op a b, scV g A fs.length c lo cd, .int .i64 res, frV (.slice LA ls.length lc) (.slice SA st.length sc)] w (StepPost w ([], [], 14)) := by
  have HB0 := Lib.hid (below_alloc' (o := .cells #[.slice none 0 0, .slice none 0 0] 30) (below_alloc' (o := .cells #[.slice LA ls.length lc, .slice SA st.length sc] 30) (below_alloc' (o := .cells #[.pointer (some ⟨g, 0, none⟩), .slice A fs.length c, .int .i64 lo, .int .i64 cd] 34) (below_alloc' (o := .cells #[.int .i64 op, .int .i64 a, .int .i64 b] 27) (below_refl w)))))
  have HR := Lib.hid (right_calls op a b g A fs.length c lo cd TS _ (hT.below HB0.out) hpl)
  rw [hr] at HR
  have HT := Lib.hid hT
  have HF := Lib.hid hF
  have HPL := Lib.hid hpl
  have HRR := Lib.hid hr
  clear hT hF hr hpl
  subst hl
  have H0 := eff_bound HF.out HPL.out HRR.out
  unfold frV
  go_enter Tryd.func22, Tryd.ntmps22
  go_wp2_with fail
  refine HR.out.mono ?_
  rintro e w1 ⟨rfl, hb⟩
  have HB1 := Lib.hid (below_then HB0.out hb)
  obtain ⟨hc, hf⟩ := bcell hb
  have hz : w.heap.size + 3 < w1.heap.size := by have := hb.size; simp at this; omega
  have hz2 : w.heap.size + 2 < w1.heap.size := by omega
  have hz1 : w.heap.size + 1 < w1.heap.size := by omega
  have hz0 : w.heap.size < w1.heap.size := by omega
  clear hb
  go_wp2_with fail
  refine (effect_calls op a b g A c (ls.length : Int) cd TS fs _ (HT.out.below HB1.out) (HF.out.below HB1.out) HPL.out).mono ?_
  rintro e w2 ⟨rfl, hb⟩
  have HB2 := Lib.hid (below_then HB1.out hb)
  obtain ⟨hc2, hf2⟩ := bcell hb
  have hy3 : w.heap.size + 3 < w2.heap.size := by have := hb.size; omega
  have hy2 : w.heap.size + 2 < w2.heap.size := by omega
  have hy1 : w.heap.size + 1 < w2.heap.size := by omega
  have hy0 : w.heap.size < w2.heap.size := by omega
  clear hb
  have HE : effB (rowOf op) TS fs (ls.length : Int) cd op a b = effR (rowOf op) TS fs op a b := by unfold effB; rw [if_pos HRR.out]
  rw [HE]
  generalize effR (rowOf op) TS fs op a b = ee at *
  obtain ⟨tk, lv⟩ := ee
  dsimp only at *
  go_wp2
  exact bodyPost_ret (v := .tuple #[.agg #[.slice none 0 0, .slice none 0 0], .int .i64 14]) (by simp [results, Tryd.results22, go_sem, hc, hf, hz, hz1, hz2, hz0, hc2, hf2, hy3, hy2, hy1, hy0]) rfl ⟨_, _, rfl, OwnFr.nil _ _, below_set' (below_set' HB2.out (by simp; omega)) (by simp; omega)⟩
set_option maxHeartbeats 1000000 in
theorem step_ok (op a b : Int) (g : Nat) (A : Option Addr) (c : Nat) (lo cd : Int) (TS : List Ty) (fs : List Fn) (res : Int) (LA : Option Addr) (lc : Nat) (ls : List Int) (SA : Option Addr) (sc : Nat) (st : List Int) (w : World) (hT : Tab w g TS) (hF : FnSl w A c fs) (hpl : (partsOf TS a).length * 8 ≤ 140737488355328) (hsz : st.length ≤ 17592186044300) (hr : rightR (rowOf op) TS fs.length lo cd a b = true) (hl : lo = (ls.length : Int)) (hu : (effR (rowOf op) TS fs op a b).1 ≤ (st.length : Int)) (ho : (st.length : Int) - (effR (rowOf op) TS fs op a b).1 + (effR (rowOf op) TS fs op a b).2 ≤ 24) (hL : IntSl w LA lc ls) (hS : IntSl w SA sc st) (hll : ls.length * 8 ≤ 140737488355328) (ls' st' : List Int) (err : Int)
    (HP : ∀ (W0 : World), Below w.heap.size w W0 → ∀ (s : Nat) (LV : Value) (w' : World), Below W0.heap.size W0 w' → W0.heap.size ≤ s → SInv W0.heap.size s ⟨op, a, b, g, A, fs.length, c, (ls.length : Int), cd, res, LV⟩ w' ls st 0 → Calls Tryd.prog 64 #[.pointer (some ⟨s, 0, none⟩)] w' (PlainPost W0.heap.size s ⟨op, a, b, g, A, fs.length, c, (ls.length : Int), cd, res, LV⟩ w' ls' st' err)) :
    Calls Tryd.prog 22 #[inV op a b, scV g A fs.length c lo cd, .int .i64 res, frV (.slice LA ls.length lc) (.slice SA st.length sc)] w (StepPost w (ls', st', err)) := by
  have HB0 := Lib.hid (below_alloc' (o := .cells #[.slice none 0 0, .slice none 0 0] 30) (below_alloc' (o := .cells #[.slice LA ls.length lc, .slice SA st.length sc] 30) (below_alloc' (o := .cells #[.pointer (some ⟨g, 0, none⟩), .slice A fs.length c, .int .i64 lo, .int .i64 cd] 34) (below_alloc' (o := .cells #[.int .i64 op, .int .i64 a, .int .i64 b] 27) (below_refl w)))))
  have HR := Lib.hid (right_calls op a b g A fs.length c lo cd TS _ (hT.below HB0.out) hpl)
  rw [hr] at HR
  have HT := Lib.hid hT
  have HF := Lib.hid hF
  have HPL := Lib.hid hpl
  have HRR := Lib.hid hr
  clear hT hF hr hpl
  subst hl
  have H0 := eff_bound HF.out HPL.out HRR.out
  have HLS := Lib.hid hL
  have HSS := Lib.hid hS
  have HPP := Lib.hid HP
  have HH4 := Lib.hid (heap4 w (.cells #[.int .i64 op, .int .i64 a, .int .i64 b] 27) (.cells #[.pointer (some ⟨g, 0, none⟩), .slice A fs.length c, .int .i64 (ls.length : Int), .int .i64 cd] 34) (.cells #[.slice LA ls.length lc, .slice SA st.length sc] 30) (.cells #[.slice none 0 0, .slice none 0 0] 30))
  clear hL hS HP
  unfold frV
  go_enter Tryd.func22, Tryd.ntmps22
  go_wp2_with fail
  refine HR.out.mono ?_
  rintro e w1 ⟨rfl, hb⟩
  have HB1 := Lib.hid (below_then HB0.out hb)
  obtain ⟨hc, hf⟩ := bcell hb
  have hz : w.heap.size + 3 < w1.heap.size := by have := hb.size; simp at this; omega
  have hz2 : w.heap.size + 2 < w1.heap.size := by omega
  have hz1 : w.heap.size + 1 < w1.heap.size := by omega
  have hz0 : w.heap.size < w1.heap.size := by omega
  have HX1 := Lib.hid hb
  clear hb
  go_wp2_with fail
  refine (effect_calls op a b g A c (ls.length : Int) cd TS fs _ (HT.out.below HB1.out) (HF.out.below HB1.out) HPL.out).mono ?_
  rintro e w2 ⟨rfl, hb⟩
  have HB2 := Lib.hid (below_then HB1.out hb)
  obtain ⟨hc2, hf2⟩ := bcell hb
  have hy3 : w.heap.size + 3 < w2.heap.size := by have := hb.size; omega
  have hy2 : w.heap.size + 2 < w2.heap.size := by omega
  have hy1 : w.heap.size + 1 < w2.heap.size := by omega
  have hy0 : w.heap.size < w2.heap.size := by omega
  have HX2 := Lib.hid (below_then HX1.out hb)
  clear hb
  have HE : effB (rowOf op) TS fs (ls.length : Int) cd op a b = effR (rowOf op) TS fs op a b := by unfold effB; rw [if_pos HRR.out]
  rw [HE]
  generalize effR (rowOf op) TS fs op a b = ee at *
  obtain ⟨tk, lv⟩ := ee
  dsimp only at *
  go_wp2
  have k0 : w2.cell? ⟨w.heap.size, 0, none⟩ = some (.int .i64 op) := cell_below HX2.out (cell_of_row _ _ 0 _ _ _ HH4.out.1)
  have k1 : w2.cell? ⟨w.heap.size, 1, none⟩ = some (.int .i64 a) := cell_below HX2.out (cell_of_row _ _ 1 _ _ _ HH4.out.1)
  have k2 : w2.cell? ⟨w.heap.size, 2, none⟩ = some (.int .i64 b) := cell_below HX2.out (cell_of_row _ _ 2 _ _ _ HH4.out.1)
  have k3 : w2.cell? ⟨w.heap.size + 1, 0, none⟩ = some (.pointer (some ⟨g, 0, none⟩)) := cell_below HX2.out (cell_of_row _ _ 0 _ _ _ HH4.out.2.1)
  have k4 : w2.cell? ⟨w.heap.size + 1, 1, none⟩ = some (.slice A fs.length c) := cell_below HX2.out (cell_of_row _ _ 1 _ _ _ HH4.out.2.1)
  have k5 : w2.cell? ⟨w.heap.size + 1, 2, none⟩ = some (.int .i64 (ls.length : Int)) := cell_below HX2.out (cell_of_row _ _ 2 _ _ _ HH4.out.2.1)
  have k6 : w2.cell? ⟨w.heap.size + 1, 3, none⟩ = some (.int .i64 cd) := cell_below HX2.out (cell_of_row _ _ 3 _ _ _ HH4.out.2.1)
  have k7 : w2.cell? ⟨w.heap.size + 1 + 1, 0, none⟩ = some (.slice LA ls.length lc) := cell_below HX2.out (cell_of_row _ _ 0 _ _ _ HH4.out.2.2.1)
  have k8 : w2.cell? ⟨w.heap.size + 1 + 1, 1, none⟩ = some (.slice SA st.length sc) := cell_below HX2.out (cell_of_row _ _ 1 _ _ _ HH4.out.2.2.1)
  have HC := Lib.hid (copy_calls LA lc ls SA sc st w2.drew (HLS.out.below (below_drew' HB2.out)) (HSS.out.below (below_drew' HB2.out)) hll (by omega))
  have HB2' := HB2.out
  clear hc hf hc2 hf2
  go_region_held3 (fun w' => w'.cell? ⟨w.heap.size, 0, none⟩ = some (.int .i64 op) ∧ w'.cell? ⟨w.heap.size, 1, none⟩ = some (.int .i64 a) ∧ w'.cell? ⟨w.heap.size, 2, none⟩ = some (.int .i64 b) ∧ w'.cell? ⟨w.heap.size + 1, 0, none⟩ = some (.pointer (some ⟨g, 0, none⟩)) ∧ w'.cell? ⟨w.heap.size + 1, 1, none⟩ = some (.slice A fs.length c) ∧ w'.cell? ⟨w.heap.size + 1, 2, none⟩ = some (.int .i64 (ls.length : Int)) ∧ w'.cell? ⟨w.heap.size + 1, 3, none⟩ = some (.int .i64 cd) ∧ w'.cell? ⟨w.heap.size + 1 + 1, 0, none⟩ = some (.slice LA ls.length lc) ∧ w'.cell? ⟨w.heap.size + 1 + 1, 1, none⟩ = some (.slice SA st.length sc) ∧ Below w.heap.size w w')
    (first
      | (go_split_ands; exact ⟨by assumption, by assumption, by assumption, by assumption, by assumption, by assumption, by assumption, by assumption, by assumption, by assumption⟩)
      | (go_split_ands; exact ⟨by assumption, by assumption, by assumption, by assumption, by assumption, by assumption, by assumption, by assumption, by assumption, below_drew' HB2.out⟩)
      | (go_split_ands; refine (fun hBB => ⟨cell_below hBB (by assumption), cell_below hBB (by assumption), cell_below hBB (by assumption), cell_below hBB (by assumption), cell_below hBB (by assumption), cell_below hBB (by assumption), cell_below hBB (by assumption), cell_below hBB (by assumption), cell_below hBB (by assumption), below_then (W := w2.drew) (below_drew' HB2.out) hBB⟩) ?_; exact ‹Below w2.drew.heap.size w2.drew _›)
      | (go_split_ands; exact ⟨cell_below (below_alloc' (below_refl _)) (by assumption), cell_below (below_alloc' (below_refl _)) (by assumption), cell_below (below_alloc' (below_refl _)) (by assumption), cell_below (below_alloc' (below_refl _)) (by assumption), cell_below (below_alloc' (below_refl _)) (by assumption), cell_below (below_alloc' (below_refl _)) (by assumption), cell_below (below_alloc' (below_refl _)) (by assumption), cell_below (below_alloc' (below_refl _)) (by assumption), cell_below (below_alloc' (below_refl _)) (by assumption), below_alloc' (by assumption)⟩))
    (first | (go_at_call 63; refine HC.out.mono ?_; rintro e w3 ⟨V1, V2, rfl, hfr, hbf⟩; unfold frV))
  have hbf2 : Below w2.heap.size w2 w3 := below_then (below_drew' (below_refl w2)) hbf
  have hfr2 : OwnFr w3 w2.heap.size V1 V2 ls st := hfr
  have HInv : Hid (SInv w2.heap.size w3.heap.size ⟨op, a, b, g, A, fs.length, c, (ls.length : Int), cd, res, V1⟩ (w3.alloc (.cells #[.int .i64 op, .int .i64 a, .int .i64 b, .pointer (some ⟨g, 0, none⟩), .slice A fs.length c, .int .i64 (ls.length : Int), .int .i64 cd, .int .i64 res, V1, V2, .int .i64 0] 93)) ls st 0) := Lib.hid ⟨V2, heap_alloc_new _ _, hfr2.l.below (below_alloc' (below_refl _)), hfr2.s.below (below_alloc' (below_refl _)), hfr2.ne⟩
  have HBW := Lib.hid (below_alloc' (o := .cells #[.int .i64 op, .int .i64 a, .int .i64 b, .pointer (some ⟨g, 0, none⟩), .slice A fs.length c, .int .i64 (ls.length : Int), .int .i64 cd, .int .i64 res, V1, V2, .int .i64 0] 93) hbf2)
  have HP1 := Lib.hid (HPP.out w2 HB2.out w3.heap.size V1 _ HBW.out hbf2.size HInv.out)
  have hs2 : w2.heap.size ≤ w3.heap.size := hbf2.size
  have hb3 : w2.heap[w.heap.size + 1 + 1 + 1]? = some (.cells #[.slice none 0 0, .slice none 0 0] 30 (0, 0)) := (HX2.out.block _ (by simp)).trans HH4.out.2.2.2
  have HB3 := Lib.hid hb3
  clear hfr hfr2 hbf hbf2 HInv hb3 HC HB2' HF HT HR HPP
  go_split_ands
  clear k0 k1 k2 k3 k4 k5 k6 k7 k8
  generalize w3.heap.size = s at *
  generalize w3.alloc (.cells #[.int .i64 op, .int .i64 a, .int .i64 b, .pointer (some ⟨g, 0, none⟩), .slice A fs.length c, .int .i64 (ls.length : Int), .int .i64 cd, .int .i64 res, V1, V2, .int .i64 0] 93) = W3 at *
  go_wp2_with fail
  refine HP1.out.mono ?_
  rintro e w4 ⟨rfl, hd⟩
  obtain ⟨SV', i1, i2, i3, i4⟩ := hd.inv.ex
  have hB4 : Below w2.heap.size w2 w4 := HBW.out.trans hd.bel
  obtain ⟨A1, c1', e1, _⟩ := i2.sl
  have e1' : V1 = .slice A1 ls'.length c1' := e1
  subst e1'
  obtain ⟨A2, c2', rfl, _⟩ := i3.sl
  have m8 : w4.cell? ⟨s, 8, none⟩ = some (.slice A1 ls'.length c1') := cell_of_row _ s 8 _ _ _ i1
  have m9 : w4.cell? ⟨s, 9, none⟩ = some (.slice A2 st'.length c2') := cell_of_row _ s 9 _ _ _ i1
  have m10 : w4.cell? ⟨s, 10, none⟩ = some (.int .i64 err) := cell_of_row _ s 10 _ _ _ i1
  have hb4 : w4.heap[w.heap.size + 1 + 1 + 1]? = some (.cells #[.slice none 0 0, .slice none 0 0] 30 (0, 0)) := (hB4.block _ hy3).trans HB3.out
  have z0 : w4.cell? ⟨w.heap.size + 1 + 1 + 1, 0, none⟩ = some (.slice none 0 0) := cell_of_row _ _ 0 _ _ _ hb4
  have z1 : w4.cell? ⟨w.heap.size + 1 + 1 + 1, 1, none⟩ = some (.slice none 0 0) := cell_of_row _ _ 1 _ _ _ hb4
  have z2 : w4.frozen? ⟨w.heap.size + 1 + 1 + 1, 0, none⟩ = false := frozen_of_row _ _ 0 _ _ hb4
  have z3 : w4.frozen? ⟨w.heap.size + 1 + 1 + 1, 1, none⟩ = false := frozen_of_row _ _ 1 _ _ hb4
  have hs3 : w.heap.size + 1 + 1 + 1 ≠ s := by omega
  have hBut : Hid (But (w.heap.size + 1 + 1 + 1) w4 ((w4.setCell ⟨w.heap.size + 1 + 1 + 1, 0, none⟩ (.slice A1 ls'.length c1')).setCell ⟨w.heap.size + 1 + 1 + 1, 1, none⟩ (.slice A2 st'.length c2'))) := Lib.hid (((But.refl _ _).set (p := ⟨w.heap.size + 1 + 1 + 1, 0, none⟩) (.inl rfl)).set (p := ⟨w.heap.size + 1 + 1 + 1, 1, none⟩) (.inl rfl))
  have hne : ∀ (v : Value) (xs : List Int), OwnInts w4 w2.heap.size v xs → (v.ownBlock = none ∨ v.ownBlock ≠ some (w.heap.size + 1 + 1 + 1)) := fun v xs h => by
    cases e : v.ownBlock with
    | none => exact .inl rfl
    | some k =>
      refine .inr fun e' => ?_
      have := (h.block k e).1
      injection e' with e'
      omega
  have HO : Hid (OwnFr ((w4.setCell ⟨w.heap.size + 1 + 1 + 1, 0, none⟩ (.slice A1 ls'.length c1')).setCell ⟨w.heap.size + 1 + 1 + 1, 1, none⟩ (.slice A2 st'.length c2')).drew w.heap.size (.slice A1 ls'.length c1') (.slice A2 st'.length c2') ls' st') :=
    Lib.hid ⟨((i2.kept (grown_of_but hBut.out) (hne _ _ i2)).below (below_drew' (below_refl _))).mono' (by omega), ((i3.kept (grown_of_but hBut.out) (hne _ _ i3)).below (below_drew' (below_refl _))).mono' (by omega), i4⟩
  have HZ := Lib.hid (below_set' (p := ⟨w.heap.size + 1 + 1 + 1, 1, none⟩) (u := .slice A2 st'.length c2') (below_set' (p := ⟨w.heap.size + 1 + 1 + 1, 0, none⟩) (u := .slice A1 ls'.length c1') (below_then HB2.out hB4) (by simp; omega)) (by simp; omega))
  clear hd i1 i2 i3 i4 hB4 hb4 e1 hBut hne HP1 HBW
  go_wp2
  go_region_held3 (fun w' => w'.cell? ⟨s, 8, none⟩ = some (.slice A1 ls'.length c1') ∧ w'.cell? ⟨s, 9, none⟩ = some (.slice A2 st'.length c2') ∧ w'.cell? ⟨s, 10, none⟩ = some (.int .i64 err))
    (first
      | (go_split_ands; exact ⟨by assumption, by assumption, by assumption⟩)
      | (go_split_ands; exact ⟨cell_far' (cell_far' (by assumption) hs3) hs3, cell_far' (cell_far' (by assumption) hs3) hs3, cell_far' (cell_far' (by assumption) hs3) hs3⟩)
      | (go_keep; done))
    (fail)
  have d0 : ((w4.setCell ⟨w.heap.size + 1 + 1 + 1, 0, none⟩ (.slice A1 ls'.length c1')).setCell ⟨w.heap.size + 1 + 1 + 1, 1, none⟩ (.slice A2 st'.length c2')).drew.cell? ⟨w.heap.size + 1 + 1 + 1, 0, none⟩ = some (.slice A1 ls'.length c1') := by go_simp
  have d1 : ((w4.setCell ⟨w.heap.size + 1 + 1 + 1, 0, none⟩ (.slice A1 ls'.length c1')).setCell ⟨w.heap.size + 1 + 1 + 1, 1, none⟩ (.slice A2 st'.length c2')).drew.cell? ⟨w.heap.size + 1 + 1 + 1, 1, none⟩ = some (.slice A2 st'.length c2') := by go_simp
  have HZ2 := Lib.hid (below_drew' HZ.out)
  go_split_ands
  clear m8 m9 m10 z0 z1 z2 z3
  generalize ((w4.setCell ⟨w.heap.size + 1 + 1 + 1, 0, none⟩ (.slice A1 ls'.length c1')).setCell ⟨w.heap.size + 1 + 1 + 1, 1, none⟩ (.slice A2 st'.length c2')).drew = W9 at *
  go_wp2
  exact bodyPost_ret (v := .tuple #[.agg #[.slice A1 ls'.length c1', .slice A2 st'.length c2'], .int .i64 err]) (by simp [results, Tryd.results22, go_sem, d0, d1]) rfl ⟨_, _, rfl, HO.out, HZ2.out⟩
end Go.Proofs.YtdilmfnijkjiaaaDoor.K
