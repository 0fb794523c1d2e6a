import Derived.Test.YtdilmfnijkjiaaaDoorKArg3
set_option maxRecDepth 100000
namespace Go.Proofs.YtdilmfnijkjiaaaDoor.K
open Go.RowKit Go.Deep Go.ChangeShapes
section
variable {H : Type} {enc : TypeId × Value → H} {W : World} {base : Nat} {sp : Nat → Bool} {held : Bool}
theorem fn_open {fuel : Nat} {cs : List Value} {x : DataW H × List MemPlace} (h : DataW.trod enc Tryd.prog W base sp held fuel 83 cs = some x) (hw : ∀ n ∈ x.1.weights Tryd.prog 83, n ≤ reachBytes) :
    ∃ A c ps re lc CA cn cc, cs = [.slice A ps.length c, .int .i64 re, .int .i64 lc, .slice CA cn cc] ∧ IntSl W A c ps ∧ ps.length * 8 ≤ 140737488351232 := by
  have h1c : Tryd.prog.cellsOf 3 = 1 := by kernel_rfl
  have h1s : Tryd.prog.cellsOf 28 = 1 := by kernel_rfl
  have h1t : Tryd.prog.cellsOf 61 = 1 := by kernel_rfl
  have h2 : Tryd.prog.cellsOf 83 = 4 := by kernel_rfl
  obtain ⟨xs, n', _, rfl, hcl, hxl, hf⟩ := DataW.trod_struct Tryd.underlying83 h
  rw [h2] at hcl
  obtain ⟨v0, v1, v2, v3, rfl⟩ := len4 hcl
  obtain ⟨x0, x1, x2, x3, rfl⟩ := len4 (n := 4) hxl
  have f0 : DataW.trod enc Tryd.prog W base sp held n' 28 [v0] = some x0 := by
    have k := hf 0 _ (by rfl)
    simpa [h1c, h1s, h1t] using k
  have f1 : DataW.trod enc Tryd.prog W base sp held n' 3 [v1] = some x1 := by
    have k := hf 1 _ (by rfl)
    simpa [h1c, h1s, h1t] using k
  have f2 : DataW.trod enc Tryd.prog W base sp held n' 3 [v2] = some x2 := by
    have k := hf 2 _ (by rfl)
    simpa [h1c, h1s, h1t] using k
  have f3 : DataW.trod enc Tryd.prog W base sp held n' 61 [v3] = some x3 := by
    have k := hf 3 _ (by rfl)
    simpa [h1c, h1s, h1t] using k
  obtain ⟨k1, rfl, _⟩ := trod_int2 f1
  obtain ⟨k2, rfl, _⟩ := trod_int2 f2
  obtain ⟨A, c, ps, e2, hs, hp, _⟩ := sl_ints2 f0 (fun n hn => hw n (by
    simp only [DataW.weights, Tryd.underlying83, List.map_cons, List.map_nil, DataW.weightsEach, List.mem_append]
    exact .inl hn))
  obtain rfl : v0 = _ := by simpa using e2
  obtain ⟨B, m', d, rfl⟩ : ∃ B m' d, v3 = .slice B m' d := by
    rcases open_slice Tryd.underlying61 f3 with ⟨e, _⟩ | ⟨a', len', cap', _, _, _, _, e, _⟩
    · exact ⟨_, _, _, by simpa using e⟩
    · exact ⟨_, _, _, by simpa using e⟩
  exact ⟨A, c, ps, k1, k2, B, m', d, rfl, hs, hp⟩
theorem bytes83 : Tryd.prog.bytesOf 83 = 64 := by kernel_rfl
theorem sl_funcs64 {fuel : Nat} {cs : List Value} {x : DataW H × List MemPlace} (h : DataW.trod enc Tryd.prog W base sp held fuel 23 cs = some x) (hw : ∀ n ∈ x.1.weights Tryd.prog 23, n ≤ reachBytes) (A : Option Addr) (n c : Nat) (e : cs = [.slice A n c]) : n * 64 ≤ 140737488351232 := by
  have hR : reachBytes = 140737488351232 := rfl
  rcases open_slice Tryd.underlying23 h with ⟨rfl, rfl⟩ | ⟨a, len, cap, m, n', D, Pl, rfl, hb, hl, hm, hmm, rfl, hx⟩
  · simp only [List.cons.injEq, Value.slice.injEq, and_true] at e
    omega
  · simp only [List.cons.injEq, Value.slice.injEq, and_true] at e
    have hml : len ≤ m := by rw [hmm]; split <;> omega
    have k := hw ((((List.range len).map D).length + ((List.range (m - len)).map fun j => D (len + j)).length) * 64) (by
      simp only [DataW.weights, Tryd.underlying23, bytes83]
      exact List.mem_cons_self)
    simp only [List.length_map, List.length_range] at k
    omega
theorem pl4_64 {fuel : Nat} {cs : List Value} {x : DataW H × List MemPlace} (h : DataW.trod enc Tryd.prog W base sp held fuel 76 cs = some x) (hw : ∀ n ∈ x.1.weights Tryd.prog 76, n ≤ reachBytes) (T l cd : Value) (F : Option Addr) (n fc : Nat) (e : cs = [T, .slice F n fc, l, cd]) : n * 64 ≤ 140737488351232 := by
  have h1c : Tryd.prog.cellsOf 3 = 1 := by kernel_rfl
  have h1t : Tryd.prog.cellsOf 22 = 1 := by kernel_rfl
  have h1f : Tryd.prog.cellsOf 23 = 1 := by kernel_rfl
  have h2 : Tryd.prog.cellsOf 76 = 4 := by kernel_rfl
  obtain ⟨xs, n', _, rfl, hcl, hxl, hf⟩ := DataW.trod_struct Tryd.underlying76 h
  rw [h2] at hcl
  obtain ⟨x0, x1, x2, x3, rfl⟩ := len4 (n := 4) hxl
  subst e
  have f1 : DataW.trod enc Tryd.prog W base sp held n' 23 [.slice F n fc] = some x1 := by
    have k := hf 1 _ (by rfl)
    simpa [h1c, h1t, h1f] using k
  exact sl_funcs64 f1 (fun n hn => hw n (by
    simp only [DataW.weights, Tryd.underlying76, List.map_cons, List.map_nil, DataW.weightsEach, List.mem_append]
    exact .inr (.inl hn))) F n fc rfl
end
end Go.Proofs.YtdilmfnijkjiaaaDoor.K
