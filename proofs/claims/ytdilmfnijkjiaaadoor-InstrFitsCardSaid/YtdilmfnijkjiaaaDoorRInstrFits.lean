/-
The law InstrFits of tideway's layer 04, for every input: the call returns true, and each argument reads afterwards as it read before. Its condition: the listed package-level variables lie as the program's text lays them (the card ties that).
-/
import Derived.Test.YtdilmfnijkjiaaaDoorRInstrFits1
import Derived.Test.YtdilmfnijkjiaaaDoorRows
import Derived.Test.YtdilmfnijkjiaaaDoorTie
import Derived.Test.YtdilmfnijkjiaaaDoorCards
import Derived.Test.YtdilmfnijkjiaaaDoorKEnv
import Derived.Test.YtdilmfnijkjiaaaDoorKArg3
import Derived.Test.YtdilmfnijkjiaaaDoorK74
import Derived.WalkKit
import Derived.ProofKit
import Derived.OpenShut
import Derived.ShutString
import Derived.ChangeMaps5
import Derived.ChangeOld
import Derived.Below
import Derived.SizedLaws
import Derived.LaidMore
import Derived.SevenTiedAt
import Derived.JoinedOf
import Derived.RowKit
import Derived.RowKitTokens
import Derived.LaidLaws
import Derived.Lay
import Derived.MakeChecks
import Derived.Stop.Joined
set_option maxRecDepth 100000
namespace Go.Proofs.YtdilmfnijkjiaaaDoor.RInstrFits
open Go.ChangeShapes Go.WideShapes Go.ChangeAt Go.RowKit
theorem j10 : (Rows.instrFitsRow.inPlace == Tryd.pinned.checked.prog.inPlace 18) = true := by kernel_rfl
theorem j11 : (Rows.instrFitsRow.unfollowed == Tryd.pinned.checked.prog.unfollowed 18) = true := by kernel_rfl
theorem j12 : (Rows.instrFitsRow.recurses == Tryd.pinned.checked.prog.recurses 18) = true := by kernel_rfl
theorem j13 : (Rows.instrFitsRow.named == Tryd.pinned.checked.prog.varsNamed 18) = true := by kernel_rfl
theorem closed : joinedFacts Tryd.pinned.checked.prog 18 Tryd.f18 Rows.instrFitsSpec Rows.instrFitsRow = true := by
  unfold joinedFacts
  simp only [Bool.and_eq_true]
  and_intros
  · kernel_rfl
  · kernel_rfl
  · kernel_rfl
  · kernel_rfl
  · kernel_rfl
  · kernel_rfl
  · kernel_rfl
  · kernel_rfl
  · kernel_rfl
  · exact j10
  · exact j11
  · exact j12
  · exact j13
  all_goals kernel_rfl
theorem over : Rows.instrFitsRow.holds Tryd.pinned (OpenSpec.ofChange Rows.instrFitsSpec) :=
  OpenClaim.holds_of_wide 18 Tryd.f18 rfl rfl rfl rfl rfl rfl rfl ⟨rfl, rfl, rfl, rfl, rfl⟩ rfl rfl rfl rfl rfl (by kernel_rfl) Tryd.func18 closed
    (of_decide_eq_true (by kernel_rfl)) (by unfold Func.isWrapper; first | (rw [if_pos (by decide +kernel)]; kernel_rfl) | (rw [if_neg (by decide +kernel)]; exact ⟨rfl, rfl⟩))
    (fun os started H enc _ => lifted os started H enc)
end Go.Proofs.YtdilmfnijkjiaaaDoor.RInstrFits
namespace Go.Proofs.YtdilmfnijkjiaaaDoor
theorem instrFits_card : Rows.InstrFitsCardSaid :=
  Claim7.holds_tied_plain_at .later [] [.data, .data, .data, .data, .sentinel, .sentinel, .pinned] true (true, "22a79f98e3f535669963a90b14f71b2a08b30e2d318bd8b9c379e7fe1659b0f8") true
    RInstrFits.over (fun _ h => by cases h) (by kernel_rfl) (fun _ h => by cases h) instrFits_row_tie rfl ⟨rfl, rfl⟩ (by kernel_rfl) rfl
    (fun f fn hf hfn => by
      obtain rfl : f = 18 := Option.some.inj ((show Tryd.prog.funcNamed "tideway/tidewaylaw04.InstrFits" = some 18 by kernel_rfl).symm.trans hf) |>.symm
      obtain rfl : fn = Tryd.f18 := (Option.some.inj (Tryd.func18.symm.trans hfn)).symm
      exact ⟨by kernel_rfl, fun j t ht => by
        rw [Tryd.params18] at ht
        have hm : t ∈ [76, 27] := by simpa using Array.mem_of_getElem? ht
        have hall : ([76, 27].all fun u => !Tryd.prog.wantsStandIn u) = true := by kernel_rfl
        exact (show Tryd.prog.wantsStandIn t = false by simpa using List.all_eq_true.1 hall t hm)⟩)
    (by kernel_rfl)
#print axioms instrFits_card
end Go.Proofs.YtdilmfnijkjiaaaDoor

