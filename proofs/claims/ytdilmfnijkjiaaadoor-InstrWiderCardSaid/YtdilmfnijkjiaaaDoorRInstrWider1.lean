/-
The law InstrWider of tideway's layer 04, for every input: the call returns true, and each argument reads afterwards as it read before. Its condition: the listed package-level variables lie as the program's text lays them (the card ties that).
-/
import Derived.Test.YtdilmfnijkjiaaaDoorRows
import Derived.Test.YtdilmfnijkjiaaaDoorTie
import Derived.Test.YtdilmfnijkjiaaaDoorCards
import Derived.Test.YtdilmfnijkjiaaaDoorKEnv
import Derived.Test.YtdilmfnijkjiaaaDoorKArg3
import Derived.Test.YtdilmfnijkjiaaaDoorK78
import Derived.Test.YtdilmfnijkjiaaaDoorKArg4
import Derived.WalkKit
import Derived.ProofKit
import Derived.OpenShut
import Derived.ShutString
import Derived.ChangeMaps5
import Derived.ChangeOld
import Derived.Below
import Derived.SizedLaws
import Derived.LaidMore
import Derived.SevenTiedAt
import Derived.JoinedOf
import Derived.RowKit
import Derived.RowKitTokens
import Derived.LaidLaws
import Derived.Lay
import Derived.MakeChecks
import Derived.Stop.Joined
set_option maxRecDepth 100000
namespace Go.Proofs.YtdilmfnijkjiaaaDoor.RInstrWider
open Go.ChangeShapes Go.WideShapes Go.ChangeAt Go.RowKit
theorem own : ownKnob Tryd.prog.godebug = none := by kernel_rfl
theorem laidOut : laidOutB Tryd.prog = true := by kernel_rfl
theorem lifted (os : Os) (started : os.Started) (H : Type) (enc : TypeId × Value → H) :
    ReturnsInHanded {} Tryd.checked os 17 .any (fun w args => (Rows.instrWiderSpec.pre enc Tryd.prog Tryd.f17 [] false w args ∧ laidMetH Tryd.prog K.laid7 w) ∧ sizedMet enc Tryd.prog Tryd.f17 (OpenSpec.ofChange Rows.instrWiderSpec) false w args)
      (Rows.instrWiderSpec.post enc Tryd.prog Tryd.f17 false true false false) := by
  refine K.handed_and_shaped (C := Tryd.checked) (X := fun w _ => laidMetH Tryd.prog K.laid7 w) (fun _ _ _ hh h => h.of_heap hh) own started (by kernel_rfl) Tryd.func17
    (ChangeSpec.witness_shaped (enc := enc) (C := Tryd.checked) (os := os) (X := fun w _ => laidMetH Tryd.prog K.laid7 w) false (World.laidAll Tryd.prog os K.laid7) #[.agg #[.slice none 0 0, .slice none 0 0, .int .i64 0, .int .i64 0], .agg #[.int .i64 0, .int .i64 0, .int .i64 0], .agg #[.slice none 0 0, .int .i64 0, .int .i64 0, .slice none 0 0]] 8 (World.laidAll_os _ _ _) (World.shaped_of_ZipB (by kernel_rfl) (by kernel_rfl)) (by kernel_rfl) (by kernel_rfl) (by kernel_rfl)
      (by rw [MakeChecks.laidMetH_plain _ _ _ (by kernel_rfl)]; exact laidMet_laidAll _ (by kernel_rfl) (by kernel_rfl))) ?_
  intro W base args ds gs before hval0 hW hsz0 hL hsh
  have hE := K.env_of_laid hL hsh
  have hsz : ∀ n ∈ DataW.weightsEach Tryd.prog (Tryd.f17.params.toList ++ Rows.instrWiderSpec.plain.varTypes Tryd.prog) (ds ++ gs), n ≤ reachBytes := fun n hn => by simpa using List.all_eq_true.1 hsz0 n hn
  have hval : ∀ (j : Nat) t v, Tryd.f17.params[j]? = some t → args[j]? = some v → Value.okWide Tryd.prog W .any base t v := hval0
  have hW' := hW
  obtain ⟨p, q, hA0, hV, rfl, hfz, hnd⟩ := hW
  have hA : DataW.TrodAll enc Tryd.prog W 0 (fun _ => true) true Tryd.f17.params.toList args.toList ds p := hA0
  rw [Tryd.params17] at hA hval hsz
  obtain ⟨v0, vs0, d0, ds0, p0, q0, hargs, rfl, rfl, h0, r0⟩ := trodAll_cons hA
  obtain ⟨v1, vs1, d1, ds1, p1, q1, rfl, rfl, rfl, h1, r1⟩ := trodAll_cons r0
  obtain ⟨v2, vs2, d2, ds2, p2, q2, rfl, rfl, rfl, h2, r2⟩ := trodAll_cons r1
  obtain ⟨rfl, rfl, rfl⟩ := trodAll_nil r2
  obtain rfl : args = #[v0, v1, v2] := by cases args; simp_all
  obtain ⟨rfl, rfl⟩ := trodVars_none hV
  have k0 := h0
  have lt0 : ∀ x ∈ p0, x.block < W.heap.size := by obtain ⟨m, hm⟩ := k0; exact DataW.trod_lt m _ _ _ hm
  obtain ⟨cs0, rfl, _⟩ := okWide_struct Tryd.underlying76 (hval 0 76 v0 rfl rfl)
  obtain ⟨fu0, hf0⟩ := h0
  obtain ⟨A0, c0, ts0, F0, fc0, fs0, lo0, cd0, hcs0, hT0, hm0, hp0, ho0, hF0, hfm0, hfi0, hlo0, hcd0⟩ := K.pl4_open hf0 (fun n hn => hsz n (DataW.weights_mem_each (j := 0) (t := 76) rfl rfl n hn))
  have h64 := K.pl4_64 hf0 (fun n hn => hsz n (DataW.weights_mem_each (j := 0) (t := 76) rfl rfl n hn)) _ _ _ _ _ _ hcs0
  obtain rfl : cs0 = #[.slice A0 ts0.length c0, .slice F0 fs0.length fc0, .int .i64 lo0, .int .i64 cd0] := by cases cs0; simpa [Value.cells] using hcs0
  have k1 := h1
  have lt1 : ∀ x ∈ p1, x.block < W.heap.size := by obtain ⟨m, hm⟩ := k1; exact DataW.trod_lt m _ _ _ hm
  obtain ⟨cs1, rfl, _⟩ := okWide_struct Tryd.underlying27 (hval 1 27 v1 rfl rfl)
  obtain ⟨fu1, hf1⟩ := h1
  obtain ⟨op1, ia1, ib1, hcs1, hin1⟩ := K.in_open2 hf1
  obtain rfl : cs1 = #[.int .i64 op1, .int .i64 ia1, .int .i64 ib1] := by cases cs1; simpa [Value.cells] using hcs1
  have k2 := h2
  have lt2 : ∀ x ∈ p2, x.block < W.heap.size := by obtain ⟨m, hm⟩ := k2; exact DataW.trod_lt m _ _ _ hm
  obtain ⟨cs2, rfl, _⟩ := okWide_struct Tryd.underlying83 (hval 2 83 v2 rfl rfl)
  obtain ⟨fu2, hf2⟩ := h2
  obtain ⟨PA2, pc2, ps2, re2, lc2, CA2, cn2, cc2, hcs2, hP2, hpl2⟩ := K.fn_open hf2 (fun n hn => hsz n (DataW.weights_mem_each (j := 2) (t := 83) rfl rfl n hn))
  obtain rfl : cs2 = #[.slice PA2 ps2.length pc2, .int .i64 re2, .int .i64 lc2, .slice CA2 cn2 cc2] := by cases cs2; simpa [Value.cells] using hcs2
  clear hA0 hval0 hsz0 hsz
  refine (K.instrWider_calls A0 c0 ts0 F0 fc0 fs0 lo0 cd0 op1 ia1 ib1 PA2 pc2 ps2 re2 lc2 CA2 cn2 cc2 W hE hT0 hm0 hp0 ho0 hF0 h64 hfi0 hlo0 hcd0 hin1 hP2 hpl2).mono fun e W' ⟨he, bel⟩ => ?_
  subst he
  exact ⟨_, rfl, _, _, _, [], _, [], hW', trodAll_mk1 (shut_bool Tryd.underlying4 _), (trodAll_cons_mk (Below.trod laidOut (by kernel_rfl) (of_decide_eq_true (by kernel_rfl)) k0 bel lt0) (trodAll_cons_mk (Below.trod laidOut (by kernel_rfl) (of_decide_eq_true (by kernel_rfl)) k1 bel lt1) (trodAll_cons_mk (Below.trod laidOut (by kernel_rfl) (of_decide_eq_true (by kernel_rfl)) k2 bel lt2) trodAll_mk0))), rfl, bel.frame _, fun h => by cases h⟩
end Go.Proofs.YtdilmfnijkjiaaaDoor.RInstrWider
