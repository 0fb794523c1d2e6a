import Derived.Test.YtdilmfnijkjiaaaDoorK25
import Derived.Test.YtdilmfnijkjiaaaDoorK26
set_option maxRecDepth 100000
namespace Go.Proofs.YtdilmfnijkjiaaaDoor.K
open Go.RowKit
/-- What Step answers. -/
theorem step_calls (op a b : Int) (g : Nat) (A : Option Addr) (c : Nat) (lo cd : Int) (TS : List Ty) (fs : List Fn) (res : Int) (LA : Option Addr) (lc : Nat) (ls : List Int) (SA : Option Addr) (sc : Nat) (st : List Int) (w : World) (hT : Tab w g TS) (hF : FnSl w A c fs) (hpl : (partsOf TS a).length * 8 ≤ 140737488355328)
    (hsz : st.length ≤ 17592186044300) (hll : ls.length * 8 ≤ 140737488355328) (hL : IntSl w LA lc ls) (hS : IntSl w SA sc st) :
    Calls Tryd.prog 22 #[inV op a b, scV g A fs.length c lo cd, .int .i64 res, frV (.slice LA ls.length lc) (.slice SA st.length sc)] w (StepPost w (stepM TS fs lo cd op a b res ls st)) := by
  unfold stepM
  cases hr : rightR (rowOf op) TS fs.length lo cd a b with
  | false =>
    rw [if_pos (.inl rfl)]
    exact step_no op a b g A c lo cd TS fs res LA lc ls SA sc st w hT hF hpl hsz hr
  | true =>
    by_cases hl : (ls.length : Int) ≠ lo
    · rw [if_pos (.inr hl)]
      exact step_len op a b g A c lo cd TS fs res LA lc ls SA sc st w hT hF hpl hsz hr hl
    · have hl' : lo = ls.length := by omega
      have hin := right_in hr
      have hn := eff_need TS fs op a b res hin.1 hin.2
      rw [if_neg (fun k => k.elim (fun k => by cases k) hl)]
      by_cases hu : (st.length : Int) < (effR (rowOf op) TS fs op a b).1
      · rw [if_pos hu]
        exact step_under op a b g A c lo cd TS fs res LA lc ls SA sc st w hT hF hpl hsz hr hl' hu
      · rw [if_neg hu]
        by_cases ho : 24 < (st.length : Int) - (effR (rowOf op) TS fs op a b).1 + (effR (rowOf op) TS fs op a b).2
        · rw [if_pos ho]
          exact step_over op a b g A c lo cd TS fs res LA lc ls SA sc st w hT hF hpl hsz hr hl' (by omega) ho
        · rw [if_neg ho]
          refine step_ok op a b g A c lo cd TS fs res LA lc ls SA sc st w hT hF hpl hsz hr hl' (by omega) (by omega) hL hS hll _ _ _ ?_
          intro W0 hW0 s LV w' hB hs hI
          subst hl'
          exact plain_calls W0 s op a b g A c fs _ cd res LV TS w' ls st (hT.below hW0) (hF.below hW0) hB hs hI hsz hpl hr rfl (by omega)
end Go.Proofs.YtdilmfnijkjiaaaDoor.K
