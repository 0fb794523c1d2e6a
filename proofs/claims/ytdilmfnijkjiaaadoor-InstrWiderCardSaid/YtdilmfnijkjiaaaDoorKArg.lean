import Derived.Test.YtdilmfnijkjiaaaDoorK7
import Derived.Deep.Slices
import Derived.Deep.Strs
import Derived.ChangeSlices
import Derived.SizedLaws
set_option maxRecDepth 100000
namespace Go.Proofs.YtdilmfnijkjiaaaDoor.K
open Go.RowKit Go.Deep Go.ChangeShapes
section
variable {H : Type} {enc : TypeId × Value → H} {W : World} {base : Nat} {sp : Nat → Bool} {held : Bool}
theorem weightsAll_mem {P : Program} {e : TypeId} : ∀ {l : List (DataW H)} {d : DataW H}, d ∈ l → ∀ n ∈ d.weights P e, n ∈ DataW.weightsAll P e l
  | d0 :: l, d, h, n, hn => by
    simp only [DataW.weightsAll, List.mem_append]
    rcases List.mem_cons.1 h with rfl | h
    · exact .inl hn
    · exact .inr (weightsAll_mem h n hn)
  | [], _, h, _, _ => by cases h
theorem sl_ints {fuel : Nat} {cs : List Value} {x : DataW H × List MemPlace} (h : DataW.trod enc Tryd.prog W base sp held fuel 28 cs = some x) (hw : ∀ n ∈ x.1.weights Tryd.prog 28, n ≤ reachBytes) :
    ∃ A c xs, cs = [.slice A xs.length c] ∧ IntSl W A c xs ∧ xs.length * 8 ≤ 140737488351232 := by
  rcases open_ints Tryd.underlying28 Tryd.underlying3 (by kernel_rfl) h with ⟨rfl, rfl⟩ | ⟨a, len, cap, zs, rfl, hb, hl, hm, hz, rfl, hc, hwf⟩
  · exact ⟨none, 0, [], rfl, ⟨by simp, by omega, fun _ => rfl, (fun ad e => by cases e)⟩, by simp⟩
  · have hzl : len ≤ zs.length := by rw [hz]; split <;> omega
    have e : (zs.take len).length = len := by rw [List.length_take]; omega
    have hm' : cap ≤ 9223372036854775807 := hm
    refine ⟨some a, cap, zs.take len, by rw [e], ⟨by rw [e]; exact hl, hm', (fun e => by cases e), fun ad e1 j x hj => ?_⟩, ?_⟩
    · obtain rfl := Option.some.inj e1
      have hj' := (List.getElem?_eq_some_iff.1 hj).1
      rw [e] at hj'
      rw [hc j (by omega)]
      rw [List.getElem?_take_of_lt hj'] at hj
      rw [List.getD_eq_getElem?_getD, hj]
      rfl
    · have k := hw ((zs.take len).length * 8 + (zs.drop len).length * 8) (by
        have hb : Tryd.prog.bytesOf 3 = 8 := by kernel_rfl
        simp only [DataW.weights, Tryd.underlying28, hb]
        rw [← Nat.add_mul]
        simp [lits])
      have : reachBytes = 140737488351232 := rfl
      omega
theorem trod_int {n' : Nat} {v0 : Value} {x0 : DataW H × List MemPlace} (f0 : DataW.trod enc Tryd.prog W base sp held n' 3 [v0] = some x0) : ∃ k, v0 = .int .i64 k ∧ (Lit.int .i64 k).wf = true := by
  cases n' with
  | zero => simp [DataW.trod] at f0
  | succ n' =>
    unfold DataW.trod at f0
    rw [Tryd.underlying3] at f0
    split at f0 <;> simp_all
theorem len3 {α : Type _} {l : List α} {n : Nat} (h : l.length = n) (hn : n = 3 := by rfl) : ∃ a b c, l = [a, b, c] := by
  subst hn
  match l, h with
  | [a, b, c], _ => exact ⟨a, b, c, rfl⟩
theorem sl_types {fuel : Nat} {cs : List Value} {x : DataW H × List MemPlace} (h : DataW.trod enc Tryd.prog W base sp held fuel 22 cs = some x) (hw : ∀ n ∈ x.1.weights Tryd.prog 22, n ≤ reachBytes) :
    ∃ A c ts, cs = [.slice A ts.length c] ∧ TySl W A c ts ∧ ts.length * 40 ≤ 140737488351232 ∧ ∀ t ∈ ts, t.parts.length * 8 ≤ 140737488351232 := by
  have hR : reachBytes = 140737488351232 := rfl
  rcases open_slice Tryd.underlying22 h with ⟨rfl, rfl⟩ | ⟨a, len, cap, m, n, D, Pl, rfl, hb, hl, hm, hmm, rfl, hx⟩
  · exact ⟨none, 0, [], rfl, ⟨by simp, by omega, fun _ => rfl, (fun ad e => by cases e)⟩, by simp, by simp⟩
  have hc : Tryd.prog.cellsOf 87 = 3 := by kernel_rfl
  have hby : Tryd.prog.bytesOf 87 = 40 := by kernel_rfl
  have h1c : Tryd.prog.cellsOf 3 = 1 := by kernel_rfl
  have h1s : Tryd.prog.cellsOf 28 = 1 := by kernel_rfl
  rw [hc] at hx
  have hml : len ≤ m := by rw [hmm]; split <;> omega
  have hm' : cap ≤ 9223372036854775807 := hm
  have hwE : ∀ i, i < len → ∀ n ∈ (D i).weights Tryd.prog 87, n ≤ reachBytes := fun i hi n hn => hw n (by
    simp only [DataW.weights, Tryd.underlying22, List.mem_cons, List.mem_append]
    exact .inr (.inl (weightsAll_mem (List.mem_map.2 ⟨i, List.mem_range.2 hi, rfl⟩) n hn)))
  have hall : ∀ i, i < len → ∃ t : Ty, TyAt W a i t ∧ t.parts.length * 8 ≤ 140737488351232 := fun i hi => by
    obtain ⟨cs', h1, h2⟩ := hx i (by omega)
    obtain ⟨_, h3, h4⟩ := World.cells?_some h1
    obtain ⟨xs, n', _, e1, _, hxl, hf⟩ := DataW.trod_struct Tryd.underlying87 h2
    have wE := hwE i hi
    have eD : D i = .agg (xs.map (·.1)) := (Prod.ext_iff.1 e1).1
    rw [eD] at wE
    obtain ⟨v0, v1, v2, rfl⟩ := len3 h3
    obtain ⟨x0, x1, x2, rfl⟩ := len3 (n := 3) hxl
    · have f0 : DataW.trod enc Tryd.prog W base sp held n' 3 [v0] = some x0 := by
        have k := hf 0 _ (by rfl)
        simpa [h1c, h1s] using k
      have f1 : DataW.trod enc Tryd.prog W base sp held n' 28 [v1] = some x1 := by
        have k := hf 1 _ (by rfl)
        simpa [h1c, h1s] using k
      have f2 : DataW.trod enc Tryd.prog W base sp held n' 3 [v2] = some x2 := by
        have k := hf 2 _ (by rfl)
        simpa [h1c, h1s] using k
      have c0 := h4 0 (by omega)
      have c1 := h4 1 (by omega)
      have c2 := h4 2 (by omega)
      simp only [List.getElem?_cons_zero, List.getElem?_cons_succ] at c0 c1 c2
      rw [Addr.add_add] at c0 c1 c2
      obtain ⟨k, rfl, _⟩ := trod_int f0
      obtain ⟨k2, rfl, _⟩ := trod_int f2
      obtain ⟨A, c, ps, e2, hs, hp⟩ := sl_ints f1 (fun n hn => wE n (by
        simp only [DataW.weights, Tryd.underlying87, List.map_cons, List.map_nil, DataW.weightsEach, List.mem_append]
        exact .inr (.inl hn)))
      obtain rfl : v1 = _ := by simpa using e2
      exact ⟨⟨k, ps, k2⟩, ⟨A, c, c0, c1, c2, hs⟩, hp⟩
  classical
  have hall' : ∀ i, ∃ t : Ty, i < len → TyAt W a i t ∧ t.parts.length * 8 ≤ 140737488351232 := fun i => by
    by_cases hi : i < len
    · obtain ⟨t, ht⟩ := hall i hi
      exact ⟨t, fun _ => ht⟩
    · exact ⟨⟨0, [], 0⟩, fun h => absurd h hi⟩
  let f : Nat → Ty := fun i => Classical.choose (hall' i)
  have hf : ∀ i, i < len → TyAt W a i (f i) ∧ (f i).parts.length * 8 ≤ 140737488351232 := fun i hi => Classical.choose_spec (hall' i) hi
  have e : ((List.range len).map f).length = len := by simp
  refine ⟨some a, cap, (List.range len).map f, by rw [e], ⟨by rw [e]; exact hl, hm', (fun e => by cases e), fun ad e1 j t hj => ?_⟩, ?_, fun t ht => ?_⟩
  · obtain rfl := Option.some.inj e1
    have hj' := (List.getElem?_eq_some_iff.1 hj).1
    rw [e] at hj'
    obtain rfl : f j = t := by simpa [hj'] using hj
    exact (hf j hj').1
  · have k := hw ((((List.range len).map D).length + ((List.range (m - len)).map fun j => D (len + j)).length) * 40) (by
      simp only [DataW.weights, Tryd.underlying22, hby]
      exact List.mem_cons_self)
    simp only [List.length_map, List.length_range] at k ⊢
    omega
  · obtain ⟨i, hi, rfl⟩ := List.mem_map.1 ht
    exact (hf i (List.mem_range.1 hi)).2
end
end Go.Proofs.YtdilmfnijkjiaaaDoor.K
