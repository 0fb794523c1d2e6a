/-
The law InstrWider of tideway's layer 04, for every input: the call returns true, and each argument reads afterwards as it read before. Its condition: the listed package-level variables lie as the program's text lays them (the card ties that).
-/
import Derived.Test.YtdilmfnijkjiaaaDoorRInstrWider1
import Derived.Test.YtdilmfnijkjiaaaDoorRows
import Derived.Test.YtdilmfnijkjiaaaDoorTie
import Derived.Test.YtdilmfnijkjiaaaDoorCards
import Derived.Test.YtdilmfnijkjiaaaDoorKEnv
import Derived.Test.YtdilmfnijkjiaaaDoorKArg3
import Derived.Test.YtdilmfnijkjiaaaDoorK78
import Derived.Test.YtdilmfnijkjiaaaDoorKArg4
import Derived.WalkKit
import Derived.ProofKit
import Derived.OpenShut
import Derived.ShutString
import Derived.ChangeMaps5
import Derived.ChangeOld
import Derived.Below
import Derived.SizedLaws
import Derived.LaidMore
import Derived.SevenTiedAt
import Derived.JoinedOf
import Derived.RowKit
import Derived.RowKitTokens
import Derived.LaidLaws
import Derived.Lay
import Derived.MakeChecks
import Derived.Stop.Joined
set_option maxRecDepth 100000
namespace Go.Proofs.YtdilmfnijkjiaaaDoor.RInstrWider
open Go.ChangeShapes Go.WideShapes Go.ChangeAt Go.RowKit
theorem j10 : (Rows.instrWiderRow.inPlace == Tryd.pinned.checked.prog.inPlace 17) = true := by kernel_rfl
theorem j11 : (Rows.instrWiderRow.unfollowed == Tryd.pinned.checked.prog.unfollowed 17) = true := by kernel_rfl
theorem j12 : (Rows.instrWiderRow.recurses == Tryd.pinned.checked.prog.recurses 17) = true := by kernel_rfl
theorem j13 : (Rows.instrWiderRow.named == Tryd.pinned.checked.prog.varsNamed 17) = true := by kernel_rfl
theorem closed : joinedFacts Tryd.pinned.checked.prog 17 Tryd.f17 Rows.instrWiderSpec Rows.instrWiderRow = true := by
  unfold joinedFacts
  simp only [Bool.and_eq_true]
  and_intros
  · kernel_rfl
  · kernel_rfl
  · kernel_rfl
  · kernel_rfl
  · kernel_rfl
  · kernel_rfl
  · kernel_rfl
  · kernel_rfl
  · kernel_rfl
  · exact j10
  · exact j11
  · exact j12
  · exact j13
  all_goals kernel_rfl
theorem over : Rows.instrWiderRow.holds Tryd.pinned (OpenSpec.ofChange Rows.instrWiderSpec) :=
  OpenClaim.holds_of_wide 17 Tryd.f17 rfl rfl rfl rfl rfl rfl rfl ⟨rfl, rfl, rfl, rfl, rfl⟩ rfl rfl rfl rfl rfl (by kernel_rfl) Tryd.func17 closed
    (of_decide_eq_true (by kernel_rfl)) (by unfold Func.isWrapper; first | (rw [if_pos (by decide +kernel)]; kernel_rfl) | (rw [if_neg (by decide +kernel)]; exact ⟨rfl, rfl⟩))
    (fun os started H enc _ => lifted os started H enc)
end Go.Proofs.YtdilmfnijkjiaaaDoor.RInstrWider
namespace Go.Proofs.YtdilmfnijkjiaaaDoor
theorem instrWider_card : Rows.InstrWiderCardSaid :=
  Claim7.holds_tied_plain_at .later [] [.data, .data, .data, .data, .sentinel, .sentinel, .pinned] true (true, "22a79f98e3f535669963a90b14f71b2a08b30e2d318bd8b9c379e7fe1659b0f8") true
    RInstrWider.over (fun _ h => by cases h) (by kernel_rfl) (fun _ h => by cases h) instrWider_row_tie rfl ⟨rfl, rfl⟩ (by kernel_rfl) rfl
    (fun f fn hf hfn => by
      obtain rfl : f = 17 := Option.some.inj ((show Tryd.prog.funcNamed "tideway/tidewaylaw04.InstrWider" = some 17 by kernel_rfl).symm.trans hf) |>.symm
      obtain rfl : fn = Tryd.f17 := (Option.some.inj (Tryd.func17.symm.trans hfn)).symm
      exact ⟨by kernel_rfl, fun j t ht => by
        rw [Tryd.params17] at ht
        have hm : t ∈ [76, 27, 83] := by simpa using Array.mem_of_getElem? ht
        have hall : ([76, 27, 83].all fun u => !Tryd.prog.wantsStandIn u) = true := by kernel_rfl
        exact (show Tryd.prog.wantsStandIn t = false by simpa using List.all_eq_true.1 hall t hm)⟩)
    (by kernel_rfl)
#print axioms instrWider_card
end Go.Proofs.YtdilmfnijkjiaaaDoor

