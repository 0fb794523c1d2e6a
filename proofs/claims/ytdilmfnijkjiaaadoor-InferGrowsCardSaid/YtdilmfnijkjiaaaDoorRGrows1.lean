/-
The law InferGrows of tideway's layer 07, for every input: the call returns true, and each argument reads afterwards as it read before. Its condition: the listed package-level variables lie as the program's text lays them (the card ties that).
-/
import Derived.Test.YtdilmfnijkjiaaaDoorRows
import Derived.Test.YtdilmfnijkjiaaaDoorTie
import Derived.Test.YtdilmfnijkjiaaaDoorCards
import Derived.Test.YtdilmfnijkjiaaaDoorK47
import Derived.Test.YtdilmfnijkjiaaaDoorKArg2
import Derived.WalkKit
import Derived.ProofKit
import Derived.OpenShut
import Derived.ShutString
import Derived.ChangeOld
import Derived.Below
import Derived.SizedLaws
import Derived.LaidMore
import Derived.SevenTiedAt
import Derived.JoinedOf
import Derived.RowKit
import Derived.RowKitTokens
import Derived.LaidLaws
import Derived.Stop.Joined
set_option maxRecDepth 100000
namespace Go.Proofs.YtdilmfnijkjiaaaDoor.RInferGrows
open Go.ChangeShapes Go.WideShapes Go.ChangeAt Go.RowKit
theorem own : ownKnob Tryd.prog.godebug = none := by kernel_rfl
theorem laidOut : laidOutB Tryd.prog = true := by kernel_rfl
def laid3 {H : Type} : List (String × DataW H) := [("math/bits.deBruijn32tab", Rows.laid_math_bits_deBruijn32tab), ("math/bits.deBruijn64tab", Rows.laid_math_bits_deBruijn64tab), ("internal/strconv.uint64pow10", Rows.laid_internal_strconv_uint64pow10)]
theorem door_met (os : Os) (args : Array Value) : laidMetH Tryd.prog laid3 ((World.doorLaid Tryd.prog 400 os).forCall (fun _ _ => 0) ⟨#[], args, []⟩).memory :=
  laidMetH_of_parts3 (fuel := 8) (laidMet_of_run' 8 (by kernel_rfl) (by kernel_rfl)) (by kernel_rfl) (by kernel_rfl)
theorem lifted (os : Os) (started : os.Started) (H : Type) (enc : TypeId × Value → H) :
    ReturnsInHanded {} Tryd.checked os 8 .any (fun w args => (Rows.inferGrowsSpec.pre enc Tryd.prog Tryd.f8 [] false w args ∧ laidMetH Tryd.prog laid3 w) ∧ sizedMet enc Tryd.prog Tryd.f8 (OpenSpec.ofChange Rows.inferGrowsSpec) false w args)
      (Rows.inferGrowsSpec.post enc Tryd.prog Tryd.f8 false true false false) := by
  refine returnsInHanded_of_change_and (C := Tryd.checked) (X := fun w _ => laidMetH Tryd.prog laid3 w) (fun _ _ _ hh h => h.of_heap hh) own started (by kernel_rfl) Tryd.func8
    (ChangeSpec.witness_shaped (enc := enc) (C := Tryd.checked) (os := os) (X := fun w _ => laidMetH Tryd.prog laid3 w) false (World.doorLaid Tryd.prog 400 os) #[.agg #[.slice none 0 0, .slice none 0 0, .int .i64 0, .int .i64 0], .agg #[.int .i64 0, .int .i64 0, .int .i64 0], .agg #[.slice none 0 0, .slice none 0 0], .agg #[.slice none 0 0, .slice none 0 0]] 8 rfl (World.shaped_of_RefB (by kernel_rfl) (by kernel_rfl)) (by kernel_rfl) (by kernel_rfl) (by kernel_rfl) (door_met os _)) ?_
  intro W base args ds gs before hval0 hW _ hsz0 _ _
  have hsz : ∀ n ∈ DataW.weightsEach Tryd.prog (Tryd.f8.params.toList ++ Rows.inferGrowsSpec.plain.varTypes Tryd.prog) (ds ++ gs), n ≤ reachBytes := fun n hn => by simpa using List.all_eq_true.1 hsz0 n hn
  have hval : ∀ (j : Nat) t v, Tryd.f8.params[j]? = some t → args[j]? = some v → Value.okWide Tryd.prog W .any base t v := hval0
  have hW' := hW
  obtain ⟨p, q, hA0, hV, rfl, hfz, hnd⟩ := hW
  have hA : DataW.TrodAll enc Tryd.prog W 0 (fun _ => true) true Tryd.f8.params.toList args.toList ds p := hA0
  rw [Tryd.params8] at hA hval hsz
  obtain ⟨v0, vs0, d0, ds0, p0, q0, hargs, rfl, rfl, h0, r0⟩ := trodAll_cons hA
  obtain ⟨v1, vs1, d1, ds1, p1, q1, rfl, rfl, rfl, h1, r1⟩ := trodAll_cons r0
  obtain ⟨v2, vs2, d2, ds2, p2, q2, rfl, rfl, rfl, h2, r2⟩ := trodAll_cons r1
  obtain ⟨v3, vs3, d3, ds3, p3, q3, rfl, rfl, rfl, h3, r3⟩ := trodAll_cons r2
  obtain ⟨rfl, rfl, rfl⟩ := trodAll_nil r3
  obtain rfl : args = #[v0, v1, v2, v3] := by cases args; simp_all
  obtain ⟨rfl, rfl⟩ := trodVars_none hV
  have k0 := h0
  have lt0 : ∀ x ∈ p0, x.block < W.heap.size := by obtain ⟨m, hm⟩ := k0; exact DataW.trod_lt m _ _ _ hm
  obtain ⟨cs0, rfl, _⟩ := okWide_struct Tryd.underlying25 (hval 0 25 v0 rfl rfl)
  obtain ⟨fu0, hf0⟩ := h0
  obtain ⟨A0, c0, ts0, F0, fc0, fs0, cd0, rs0, hcs0, hT0, hm0, hp0, ho0, hF0, hfm0, hr0, hfi0⟩ := K.pl_open hf0 (fun n hn => hsz n (DataW.weights_mem_each (j := 0) (t := 25) rfl rfl n hn))
  obtain rfl : cs0 = #[.slice A0 ts0.length c0, .slice F0 fs0.length fc0, .int .i64 cd0, .int .i64 rs0] := by cases cs0; simpa [Value.cells] using hcs0
  have k1 := h1
  have lt1 : ∀ x ∈ p1, x.block < W.heap.size := by obtain ⟨m, hm⟩ := k1; exact DataW.trod_lt m _ _ _ hm
  obtain ⟨cs1, rfl, _⟩ := okWide_struct Tryd.underlying27 (hval 1 27 v1 rfl rfl)
  obtain ⟨fu1, hf1⟩ := h1
  obtain ⟨op1, ia1, ib1, hcs1⟩ := K.in_open hf1
  obtain rfl : cs1 = #[.int .i64 op1, .int .i64 ia1, .int .i64 ib1] := by cases cs1; simpa [Value.cells] using hcs1
  have k2 := h2
  have lt2 : ∀ x ∈ p2, x.block < W.heap.size := by obtain ⟨m, hm⟩ := k2; exact DataW.trod_lt m _ _ _ hm
  obtain ⟨cs2, rfl, _⟩ := okWide_struct Tryd.underlying30 (hval 2 30 v2 rfl rfl)
  obtain ⟨fu2, hf2⟩ := h2
  obtain ⟨LA2, lc2, ls2, SA2, sc2, st2, hcs2, hL2, hS2, hl2, hs2⟩ := K.fr_open hf2 (fun n hn => hsz n (DataW.weights_mem_each (j := 2) (t := 30) rfl rfl n hn))
  obtain rfl : cs2 = #[.slice LA2 ls2.length lc2, .slice SA2 st2.length sc2] := by cases cs2; simpa [Value.cells] using hcs2
  have k3 := h3
  have lt3 : ∀ x ∈ p3, x.block < W.heap.size := by obtain ⟨m, hm⟩ := k3; exact DataW.trod_lt m _ _ _ hm
  obtain ⟨cs3, rfl, _⟩ := okWide_struct Tryd.underlying30 (hval 3 30 v3 rfl rfl)
  obtain ⟨fu3, hf3⟩ := h3
  obtain ⟨LA3, lc3, ls3, SA3, sc3, st3, hcs3, hL3, hS3, hl3, hs3⟩ := K.fr_open hf3 (fun n hn => hsz n (DataW.weights_mem_each (j := 3) (t := 30) rfl rfl n hn))
  obtain rfl : cs3 = #[.slice LA3 ls3.length lc3, .slice SA3 st3.length sc3] := by cases cs3; simpa [Value.cells] using hcs3
  clear hA0 hval0 hsz0 hsz
  refine (K.grows_calls A0 c0 ts0 F0 fc0 fs0 cd0 rs0 op1 ia1 ib1 LA2 lc2 ls2 SA2 sc2 st2 LA3 lc3 ls3 SA3 sc3 st3 W hT0 hm0 hp0 ho0 hF0 hfm0 hr0 hfi0 hL2 hS2 hl2 hs2 hL3 hS3 hl3 hs3).mono fun e W' ⟨he, bel⟩ => ?_
  subst he
  exact ⟨_, rfl, _, _, _, [], _, [], hW', trodAll_mk1 (shut_bool Tryd.underlying4 _), (trodAll_cons_mk (Below.trod laidOut (by kernel_rfl) (of_decide_eq_true (by kernel_rfl)) k0 bel lt0) (trodAll_cons_mk (Below.trod laidOut (by kernel_rfl) (of_decide_eq_true (by kernel_rfl)) k1 bel lt1) (trodAll_cons_mk (Below.trod laidOut (by kernel_rfl) (of_decide_eq_true (by kernel_rfl)) k2 bel lt2) (trodAll_cons_mk (Below.trod laidOut (by kernel_rfl) (of_decide_eq_true (by kernel_rfl)) k3 bel lt3) trodAll_mk0)))), rfl, bel.frame _, fun h => by cases h⟩
end Go.Proofs.YtdilmfnijkjiaaaDoor.RInferGrows
