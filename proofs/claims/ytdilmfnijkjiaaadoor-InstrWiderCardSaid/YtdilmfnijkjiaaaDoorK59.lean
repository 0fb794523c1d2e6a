import Derived.Test.YtdilmfnijkjiaaaDoorK56
import Derived.Test.YtdilmfnijkjiaaaDoorK58
import Derived.Test.YtdilmfnijkjiaaaDoorK6
set_option maxRecDepth 100000
set_option linter.unusedSimpArgs false
set_option linter.unusedVariables false
namespace Go.Proofs.YtdilmfnijkjiaaaDoor.K
open Go.RowKit
theorem form7_kind : ∀ n : Fin 38, (rws.getD n ⟨⟨#[]⟩, -1, -1, 0, 0, false⟩).form = 7 → (rws.getD n ⟨⟨#[]⟩, -1, -1, 0, 0, false⟩).kind = 2 := by decide
theorem form8_kind : ∀ n : Fin 38, (rws.getD n ⟨⟨#[]⟩, -1, -1, 0, 0, false⟩).form = 8 → (rws.getD n ⟨⟨#[]⟩, -1, -1, 0, 0, false⟩).kind = 4 := by decide
theorem row7 {op : Int} (h : (rowOf op).form = 7) : (rowOf op).kind = 2 := by
  unfold rowOf at h ⊢
  split at h
  · rename_i hin; rw [if_pos hin]; exact form7_kind ⟨op.toNat, by omega⟩ h
  · simp at h
theorem row8 {op : Int} (h : (rowOf op).form = 8) : (rowOf op).kind = 4 := by
  unfold rowOf at h ⊢
  split at h
  · rename_i hin; rw [if_pos hin]; exact form8_kind ⟨op.toNat, by omega⟩ h
  · simp at h
theorem right4_calls (op a b : Int) (A : Option Addr) (c : Nat) (ts : List Ty) (F : Option Addr) (nf d : Nat) (locals code : Int) (w : World) (hT : TySl w A c ts) (hok : tysOk ts) (hr : a ≤ 9223372036854775807) :
    Calls Tryd.prog 59 #[.agg #[.int .i64 op, .int .i64 a, .int .i64 b], .agg #[.slice A ts.length c, .slice F nf d, .int .i64 locals, .int .i64 code]] w (BoolPost w (rightR (rowOf op) (allOf ts) nf locals code a b)) := by
  have hfm := rowOf_form op
  by_cases h7 : (rowOf op).form = 7
  · have e : rightR (rowOf op) (allOf ts) nf locals code a b = ((kOf (allOf ts) a == 2) && belowB b (partsOf (allOf ts) a).length) := by simp [rightR, h7, row7 h7, twoB]
    rw [e]
    exact right4_7 op a b A c ts F nf d locals code w h7 hT hok hr
  by_cases h8 : (rowOf op).form = 8
  · have e : rightR (rowOf op) (allOf ts) nf locals code a b = ((kOf (allOf ts) a == 4) && belowB b nf) := by simp [rightR, h8, row8 h8, twoB]
    rw [e]
    exact right4_8 op a b A c ts F nf d locals code w h8 hT hok hr
  by_cases hb : b = 0
  · subst hb
    have hc : (rowOf op).form = -1 ∨ (rowOf op).form = 0 ∨ (rowOf op).form = 1 ∨ (rowOf op).form = 2 ∨ (rowOf op).form = 3 ∨ (rowOf op).form = 4 ∨ (rowOf op).form = 5 ∨ (rowOf op).form = 6 ∨ (rowOf op).form = 9 := by omega
    rcases hc with h | h | h | h | h | h | h | h | h
    · have e : rightR (rowOf op) (allOf ts) nf locals code a 0 = false := by simp [rightR, h, twoB]
      rw [e]; exact right4_m1 op a A ts.length c F nf d locals code w h
    · have e : rightR (rowOf op) (allOf ts) nf locals code a 0 = (a == 0) := by simp [rightR, h, twoB]
      rw [e]; exact right4_0 op a A ts.length c F nf d locals code w h
    · have e : rightR (rowOf op) (allOf ts) nf locals code a 0 = isNum a := by simp [rightR, h, twoB]
      rw [e]; exact right4_1 op a A ts.length c F nf d locals code w h
    · have e : rightR (rowOf op) (allOf ts) nf locals code a 0 = belowB a 2 := by simp [rightR, h, twoB]
      rw [e]; exact right4_2 op a A ts.length c F nf d locals code w h
    · have e : rightR (rowOf op) (allOf ts) nf locals code a 0 = belowB a locals := by simp [rightR, h, twoB]
      rw [e]; exact right4_3 op a A ts.length c F nf d locals code w h
    · have e : rightR (rowOf op) (allOf ts) nf locals code a 0 = belowB a code := by simp [rightR, h, twoB]
      rw [e]; exact right4_4 op a A ts.length c F nf d locals code w h
    · have e : rightR (rowOf op) (allOf ts) nf locals code a 0 = belowB a nf := by simp [rightR, h, twoB]
      rw [e]; exact right4_5 op a A ts.length c F nf d locals code w h
    · have e : rightR (rowOf op) (allOf ts) nf locals code a 0 = (kOf (allOf ts) a == (rowOf op).kind) := by simp [rightR, h, twoB]
      rw [e]; exact right4_6 op a 0 A c ts F nf d locals code w h rfl hT hr
    · have e : rightR (rowOf op) (allOf ts) nf locals code a 0 = belowB a 256 := by simp [rightR, h, twoB]
      rw [e]; exact right4_9 op a A ts.length c F nf d locals code w h
  · have e : rightR (rowOf op) (allOf ts) nf locals code a b = false := by simp [rightR, twoB, h7, h8, hb]
    rw [e]
    exact right4_bad op a b A c ts F nf d locals code w _ rfl h7 h8 hb
end Go.Proofs.YtdilmfnijkjiaaaDoor.K
