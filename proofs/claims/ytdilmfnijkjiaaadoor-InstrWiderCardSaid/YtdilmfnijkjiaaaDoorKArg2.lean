import Derived.Test.YtdilmfnijkjiaaaDoorKArg
set_option maxRecDepth 100000
namespace Go.Proofs.YtdilmfnijkjiaaaDoor.K
open Go.RowKit Go.Deep Go.ChangeShapes
section
variable {H : Type} {enc : TypeId × Value → H} {W : World} {base : Nat} {sp : Nat → Bool} {held : Bool}
theorem wf_le {n : Int} (h : (Lit.int .i64 n).wf = true) : n ≤ 9223372036854775807 := by
  simp only [Lit.wf, Bool.and_eq_true, decide_eq_true_eq] at h
  have h2 := h.2
  revert h2
  first
    | (simp [IntKind.max]; done)
    | (intro h2; have : IntKind.i64.max = 9223372036854775807 := by decide
       omega)
    | (intro h2; exact Int.le_of_lt_add_one h2)
theorem sl_ints2 {fuel : Nat} {cs : List Value} {x : DataW H × List MemPlace} (h : DataW.trod enc Tryd.prog W base sp held fuel 28 cs = some x) (hw : ∀ n ∈ x.1.weights Tryd.prog 28, n ≤ reachBytes) :
    ∃ A c xs, cs = [.slice A xs.length c] ∧ IntSl W A c xs ∧ xs.length * 8 ≤ 140737488351232 ∧ ∀ x ∈ xs, x ≤ 9223372036854775807 := by
  rcases open_ints Tryd.underlying28 Tryd.underlying3 (by kernel_rfl) h with ⟨rfl, rfl⟩ | ⟨a, len, cap, zs, rfl, hb, hl, hm, hz, rfl, hc, hwf⟩
  · exact ⟨none, 0, [], rfl, ⟨by simp, by omega, fun _ => rfl, (fun ad e => by cases e)⟩, by simp, by simp⟩
  · have hzl : len ≤ zs.length := by rw [hz]; split <;> omega
    have e : (zs.take len).length = len := by rw [List.length_take]; omega
    have hm' : cap ≤ 9223372036854775807 := hm
    refine ⟨some a, cap, zs.take len, by rw [e], ⟨by rw [e]; exact hl, hm', (fun e => by cases e), fun ad e1 j x hj => ?_⟩, ?_, fun x hx => wf_le (hwf x (List.mem_of_mem_take hx))⟩
    · obtain rfl := Option.some.inj e1
      have hj' := (List.getElem?_eq_some_iff.1 hj).1
      rw [e] at hj'
      rw [hc j (by omega)]
      rw [List.getElem?_take_of_lt hj'] at hj
      rw [List.getD_eq_getElem?_getD, hj]
      rfl
    · have k := hw ((zs.take len).length * 8 + (zs.drop len).length * 8) (by
        have hb : Tryd.prog.bytesOf 3 = 8 := by kernel_rfl
        simp only [DataW.weights, Tryd.underlying28, hb]
        rw [← Nat.add_mul]
        simp [lits])
      have : reachBytes = 140737488351232 := rfl
      omega
theorem trod_int2 {n' : Nat} {v0 : Value} {x0 : DataW H × List MemPlace} (f0 : DataW.trod enc Tryd.prog W base sp held n' 3 [v0] = some x0) : ∃ k, v0 = .int .i64 k ∧ (Lit.int .i64 k).wf = true := by
  cases n' with
  | zero => simp [DataW.trod] at f0
  | succ n' =>
    unfold DataW.trod at f0
    rw [Tryd.underlying3] at f0
    split at f0 <;> simp_all
theorem sl_types2 {fuel : Nat} {cs : List Value} {x : DataW H × List MemPlace} (h : DataW.trod enc Tryd.prog W base sp held fuel 22 cs = some x) (hw : ∀ n ∈ x.1.weights Tryd.prog 22, n ≤ reachBytes) :
    ∃ A c ts, cs = [.slice A ts.length c] ∧ TySl W A c ts ∧ ts.length * 40 ≤ 140737488351232 ∧ (∀ t ∈ ts, t.parts.length * 8 ≤ 140737488351232) ∧ ∀ t ∈ ts, t.of ≤ 9223372036854775807 := by
  have hR : reachBytes = 140737488351232 := rfl
  rcases open_slice Tryd.underlying22 h with ⟨rfl, rfl⟩ | ⟨a, len, cap, m, n, D, Pl, rfl, hb, hl, hm, hmm, rfl, hx⟩
  · exact ⟨none, 0, [], rfl, ⟨by simp, by omega, fun _ => rfl, (fun ad e => by cases e)⟩, by simp, by simp, by simp⟩
  have hc : Tryd.prog.cellsOf 87 = 3 := by kernel_rfl
  have hby : Tryd.prog.bytesOf 87 = 40 := by kernel_rfl
  have h1c : Tryd.prog.cellsOf 3 = 1 := by kernel_rfl
  have h1s : Tryd.prog.cellsOf 28 = 1 := by kernel_rfl
  rw [hc] at hx
  have hml : len ≤ m := by rw [hmm]; split <;> omega
  have hm' : cap ≤ 9223372036854775807 := hm
  have hwE : ∀ i, i < len → ∀ n ∈ (D i).weights Tryd.prog 87, n ≤ reachBytes := fun i hi n hn => hw n (by
    simp only [DataW.weights, Tryd.underlying22, List.mem_cons, List.mem_append]
    exact .inr (.inl (weightsAll_mem (List.mem_map.2 ⟨i, List.mem_range.2 hi, rfl⟩) n hn)))
  have hall : ∀ i, i < len → ∃ t : Ty, TyAt W a i t ∧ t.parts.length * 8 ≤ 140737488351232 ∧ t.of ≤ 9223372036854775807 := fun i hi => by
    obtain ⟨cs', h1, h2⟩ := hx i (by omega)
    obtain ⟨_, h3, h4⟩ := World.cells?_some h1
    obtain ⟨xs, n', _, e1, _, hxl, hf⟩ := DataW.trod_struct Tryd.underlying87 h2
    have wE := hwE i hi
    have eD : D i = .agg (xs.map (·.1)) := (Prod.ext_iff.1 e1).1
    rw [eD] at wE
    obtain ⟨v0, v1, v2, rfl⟩ := len3 h3
    obtain ⟨x0, x1, x2, rfl⟩ := len3 (n := 3) hxl
    · have f0 : DataW.trod enc Tryd.prog W base sp held n' 3 [v0] = some x0 := by
        have k := hf 0 _ (by rfl)
        simpa [h1c, h1s] using k
      have f1 : DataW.trod enc Tryd.prog W base sp held n' 28 [v1] = some x1 := by
        have k := hf 1 _ (by rfl)
        simpa [h1c, h1s] using k
      have f2 : DataW.trod enc Tryd.prog W base sp held n' 3 [v2] = some x2 := by
        have k := hf 2 _ (by rfl)
        simpa [h1c, h1s] using k
      have c0 := h4 0 (by omega)
      have c1 := h4 1 (by omega)
      have c2 := h4 2 (by omega)
      simp only [List.getElem?_cons_zero, List.getElem?_cons_succ] at c0 c1 c2
      rw [Addr.add_add] at c0 c1 c2
      obtain ⟨k, rfl, _⟩ := trod_int2 f0
      obtain ⟨k2, rfl, hk2⟩ := trod_int2 f2
      obtain ⟨A, c, ps, e2, hs, hp, _⟩ := sl_ints2 f1 (fun n hn => wE n (by
        simp only [DataW.weights, Tryd.underlying87, List.map_cons, List.map_nil, DataW.weightsEach, List.mem_append]
        exact .inr (.inl hn)))
      obtain rfl : v1 = _ := by simpa using e2
      exact ⟨⟨k, ps, k2⟩, ⟨A, c, c0, c1, c2, hs⟩, hp, wf_le hk2⟩
  classical
  have hall' : ∀ i, ∃ t : Ty, i < len → TyAt W a i t ∧ t.parts.length * 8 ≤ 140737488351232 ∧ t.of ≤ 9223372036854775807 := fun i => by
    by_cases hi : i < len
    · obtain ⟨t, ht⟩ := hall i hi
      exact ⟨t, fun _ => ht⟩
    · exact ⟨⟨0, [], 0⟩, fun h => absurd h hi⟩
  let f : Nat → Ty := fun i => Classical.choose (hall' i)
  have hf : ∀ i, i < len → TyAt W a i (f i) ∧ (f i).parts.length * 8 ≤ 140737488351232 ∧ (f i).of ≤ 9223372036854775807 := fun i hi => Classical.choose_spec (hall' i) hi
  have e : ((List.range len).map f).length = len := by simp
  refine ⟨some a, cap, (List.range len).map f, by rw [e], ⟨by rw [e]; exact hl, hm', (fun e => by cases e), fun ad e1 j t hj => ?_⟩, ?_, fun t ht => ?_, fun t ht => ?_⟩
  · obtain rfl := Option.some.inj e1
    have hj' := (List.getElem?_eq_some_iff.1 hj).1
    rw [e] at hj'
    obtain rfl : f j = t := by simpa [hj'] using hj
    exact (hf j hj').1
  · have k := hw ((((List.range len).map D).length + ((List.range (m - len)).map fun j => D (len + j)).length) * 40) (by
      simp only [DataW.weights, Tryd.underlying22, hby]
      exact List.mem_cons_self)
    simp only [List.length_map, List.length_range] at k ⊢
    omega
  · obtain ⟨i, hi, rfl⟩ := List.mem_map.1 ht
    exact (hf i (List.mem_range.1 hi)).2.1
  · obtain ⟨i, hi, rfl⟩ := List.mem_map.1 ht
    exact (hf i (List.mem_range.1 hi)).2.2
theorem len4 {α : Type _} {l : List α} {n : Nat} (h : l.length = n) (hn : n = 4 := by rfl) : ∃ a b c d, l = [a, b, c, d] := by
  subst hn
  match l, h with
  | [a, b, c, d], _ => exact ⟨a, b, c, d, rfl⟩
theorem len2 {α : Type _} {l : List α} {n : Nat} (h : l.length = n) (hn : n = 2 := by rfl) : ∃ a b, l = [a, b] := by
  subst hn
  match l, h with
  | [a, b], _ => exact ⟨a, b, rfl⟩
def FnIn (f : Fn) : Prop := f.result ≤ 9223372036854775807 ∧ ∀ p ∈ f.params, p ≤ 9223372036854775807
theorem sl_funcs {fuel : Nat} {cs : List Value} {x : DataW H × List MemPlace} (h : DataW.trod enc Tryd.prog W base sp held fuel 23 cs = some x) (hw : ∀ n ∈ x.1.weights Tryd.prog 23, n ≤ reachBytes) :
    ∃ A c fs, cs = [.slice A fs.length c] ∧ FnSl W A c fs ∧ fs.length * 8 ≤ 140737488351232 ∧ ∀ f ∈ fs, FnIn f := by
  have hR : reachBytes = 140737488351232 := rfl
  rcases open_slice Tryd.underlying23 h with ⟨rfl, rfl⟩ | ⟨a, len, cap, m, n, D, Pl, rfl, hb, hl, hm, hmm, rfl, hx⟩
  · exact ⟨none, 0, [], rfl, ⟨by simp, by omega, fun _ => rfl, (fun ad e => by cases e)⟩, by simp, by simp⟩
  have hc : Tryd.prog.cellsOf 83 = 4 := by kernel_rfl
  have hby : 8 ≤ Tryd.prog.bytesOf 83 := of_decide_eq_true (by kernel_rfl)
  have h1c : Tryd.prog.cellsOf 3 = 1 := by kernel_rfl
  have h1s : Tryd.prog.cellsOf 28 = 1 := by kernel_rfl
  have h1t : Tryd.prog.cellsOf 61 = 1 := by kernel_rfl
  rw [hc] at hx
  have hml : len ≤ m := by rw [hmm]; split <;> omega
  have hm' : cap ≤ 9223372036854775807 := hm
  have hwE : ∀ i, i < len → ∀ n ∈ (D i).weights Tryd.prog 83, n ≤ reachBytes := fun i hi n hn => hw n (by
    simp only [DataW.weights, Tryd.underlying23, List.mem_cons, List.mem_append]
    exact .inr (.inl (weightsAll_mem (List.mem_map.2 ⟨i, List.mem_range.2 hi, rfl⟩) n hn)))
  have hall : ∀ i, i < len → ∃ f : Fn, FnAt W a i f ∧ FnIn f := fun i hi => by
    obtain ⟨cs', h1, h2⟩ := hx i (by omega)
    obtain ⟨_, h3, h4⟩ := World.cells?_some h1
    obtain ⟨xs, n', _, e1, _, hxl, hf⟩ := DataW.trod_struct Tryd.underlying83 h2
    have wE := hwE i hi
    have eD : D i = .agg (xs.map (·.1)) := (Prod.ext_iff.1 e1).1
    rw [eD] at wE
    obtain ⟨v0, v1, v2, v3, rfl⟩ := len4 h3
    obtain ⟨x0, x1, x2, x3, rfl⟩ := len4 (n := 4) hxl
    have f0 : DataW.trod enc Tryd.prog W base sp held n' 28 [v0] = some x0 := by
      have k := hf 0 _ (by rfl)
      simpa [h1c, h1s, h1t] using k
    have f1 : DataW.trod enc Tryd.prog W base sp held n' 3 [v1] = some x1 := by
      have k := hf 1 _ (by rfl)
      simpa [h1c, h1s, h1t] using k
    have f2 : DataW.trod enc Tryd.prog W base sp held n' 3 [v2] = some x2 := by
      have k := hf 2 _ (by rfl)
      simpa [h1c, h1s, h1t] using k
    have f3 : DataW.trod enc Tryd.prog W base sp held n' 61 [v3] = some x3 := by
      have k := hf 3 _ (by rfl)
      simpa [h1c, h1s, h1t] using k
    have c0 := h4 0 (by omega)
    have c1 := h4 1 (by omega)
    have c2 := h4 2 (by omega)
    have c3 := h4 3 (by omega)
    simp only [List.getElem?_cons_zero, List.getElem?_cons_succ] at c0 c1 c2 c3
    rw [Addr.add_add] at c0 c1 c2 c3
    obtain ⟨k1, rfl, hk1⟩ := trod_int2 f1
    obtain ⟨k2, rfl, _⟩ := trod_int2 f2
    obtain ⟨A, c, ps, e2, hs, hp, hpr⟩ := sl_ints2 f0 (fun n hn => wE n (by
      simp only [DataW.weights, Tryd.underlying83, List.map_cons, List.map_nil, DataW.weightsEach, List.mem_append]
      exact .inl hn))
    obtain rfl : v0 = _ := by simpa using e2
    obtain ⟨B, m', d, rfl⟩ : ∃ B m' d, v3 = .slice B m' d := by
      rcases open_slice Tryd.underlying61 f3 with ⟨e, _⟩ | ⟨a', len', cap', _, _, _, _, e, _⟩
      · exact ⟨_, _, _, by simpa using e⟩
      · exact ⟨_, _, _, by simpa using e⟩
    exact ⟨⟨ps, k1, k2, []⟩, ⟨A, c, B, m', d, c0, c1, c2, c3, hs, hp⟩, wf_le hk1, hpr⟩
  classical
  have hall' : ∀ i, ∃ f : Fn, i < len → FnAt W a i f ∧ FnIn f := fun i => by
    by_cases hi : i < len
    · obtain ⟨t, ht⟩ := hall i hi
      exact ⟨t, fun _ => ht⟩
    · exact ⟨⟨[], 0, 0, []⟩, fun h => absurd h hi⟩
  let f : Nat → Fn := fun i => Classical.choose (hall' i)
  have hf : ∀ i, i < len → FnAt W a i (f i) ∧ FnIn (f i) := fun i hi => Classical.choose_spec (hall' i) hi
  have e : ((List.range len).map f).length = len := by simp
  refine ⟨some a, cap, (List.range len).map f, by rw [e], ⟨by rw [e]; exact hl, hm', (fun e => by cases e), fun ad e1 j t hj => ?_⟩, ?_, fun t ht => ?_⟩
  · obtain rfl := Option.some.inj e1
    have hj' := (List.getElem?_eq_some_iff.1 hj).1
    rw [e] at hj'
    obtain rfl : f j = t := by simpa [hj'] using hj
    exact (hf j hj').1
  · have k := hw ((((List.range len).map D).length + ((List.range (m - len)).map fun j => D (len + j)).length) * Tryd.prog.bytesOf 83) (by
      simp only [DataW.weights, Tryd.underlying23]
      exact List.mem_cons_self)
    simp only [List.length_map, List.length_range] at k ⊢
    have k2 : (len + (m - len)) * 8 ≤ (len + (m - len)) * Tryd.prog.bytesOf 83 := Nat.mul_le_mul_left _ hby
    omega
  · obtain ⟨i, hi, rfl⟩ := List.mem_map.1 ht
    exact (hf i (List.mem_range.1 hi)).2
theorem fr_open {fuel : Nat} {cs : List Value} {x : DataW H × List MemPlace} (h : DataW.trod enc Tryd.prog W base sp held fuel 30 cs = some x) (hw : ∀ n ∈ x.1.weights Tryd.prog 30, n ≤ reachBytes) :
    ∃ LA lc ls SA sc st, cs = [.slice LA ls.length lc, .slice SA st.length sc] ∧ IntSl W LA lc ls ∧ IntSl W SA sc st ∧ ls.length * 8 ≤ 140737488351232 ∧ st.length * 8 ≤ 140737488351232 := by
  have h1s : Tryd.prog.cellsOf 28 = 1 := by kernel_rfl
  have h2 : Tryd.prog.cellsOf 30 = 2 := by kernel_rfl
  obtain ⟨xs, n', _, rfl, hcl, hxl, hf⟩ := DataW.trod_struct Tryd.underlying30 h
  rw [h2] at hcl
  obtain ⟨v0, v1, rfl⟩ := len2 hcl
  obtain ⟨x0, x1, rfl⟩ := len2 (n := 2) hxl
  have f0 : DataW.trod enc Tryd.prog W base sp held n' 28 [v0] = some x0 := by
    have k := hf 0 _ (by rfl)
    simpa [h1s] using k
  have f1 : DataW.trod enc Tryd.prog W base sp held n' 28 [v1] = some x1 := by
    have k := hf 1 _ (by rfl)
    simpa [h1s] using k
  obtain ⟨A, c, ls, e1, hs1, hp1, _⟩ := sl_ints2 f0 (fun n hn => hw n (by
    simp only [DataW.weights, Tryd.underlying30, List.map_cons, List.map_nil, DataW.weightsEach, List.mem_append]
    exact .inl hn))
  obtain ⟨B, d, st, e2, hs2, hp2, _⟩ := sl_ints2 f1 (fun n hn => hw n (by
    simp only [DataW.weights, Tryd.underlying30, List.map_cons, List.map_nil, DataW.weightsEach, List.mem_append]
    exact .inr (.inl hn)))
  obtain rfl : v0 = _ := by simpa using e1
  obtain rfl : v1 = _ := by simpa using e2
  exact ⟨A, c, ls, B, d, st, rfl, hs1, hs2, hp1, hp2⟩
theorem in_open {fuel : Nat} {cs : List Value} {x : DataW H × List MemPlace} (h : DataW.trod enc Tryd.prog W base sp held fuel 27 cs = some x) : ∃ op a b, cs = [.int .i64 op, .int .i64 a, .int .i64 b] := by
  have h1c : Tryd.prog.cellsOf 3 = 1 := by kernel_rfl
  have h2 : Tryd.prog.cellsOf 27 = 3 := by kernel_rfl
  obtain ⟨xs, n', _, rfl, hcl, hxl, hf⟩ := DataW.trod_struct Tryd.underlying27 h
  rw [h2] at hcl
  obtain ⟨v0, v1, v2, rfl⟩ := len3 hcl
  obtain ⟨x0, x1, x2, rfl⟩ := len3 (n := 3) hxl
  have f0 : DataW.trod enc Tryd.prog W base sp held n' 3 [v0] = some x0 := by
    have k := hf 0 _ (by rfl)
    simpa [h1c] using k
  have f1 : DataW.trod enc Tryd.prog W base sp held n' 3 [v1] = some x1 := by
    have k := hf 1 _ (by rfl)
    simpa [h1c] using k
  have f2 : DataW.trod enc Tryd.prog W base sp held n' 3 [v2] = some x2 := by
    have k := hf 2 _ (by rfl)
    simpa [h1c] using k
  obtain ⟨k0, rfl, _⟩ := trod_int2 f0
  obtain ⟨k1, rfl, _⟩ := trod_int2 f1
  obtain ⟨k2, rfl, _⟩ := trod_int2 f2
  exact ⟨k0, k1, k2, rfl⟩
theorem pl_open {fuel : Nat} {cs : List Value} {x : DataW H × List MemPlace} (h : DataW.trod enc Tryd.prog W base sp held fuel 25 cs = some x) (hw : ∀ n ∈ x.1.weights Tryd.prog 25, n ≤ reachBytes) :
    ∃ A c ts FA fc fs code res, cs = [.slice A ts.length c, .slice FA fs.length fc, .int .i64 code, .int .i64 res] ∧ TySl W A c ts ∧ ts.length * 40 ≤ 140737488351232 ∧ (∀ t ∈ ts, t.parts.length * 8 ≤ 140737488351232) ∧ (∀ t ∈ ts, t.of ≤ 9223372036854775807) ∧
      FnSl W FA fc fs ∧ fs.length * 8 ≤ 140737488351232 ∧ res ≤ 9223372036854775807 ∧ ∀ f ∈ fs, FnIn f := by
  have h1c : Tryd.prog.cellsOf 3 = 1 := by kernel_rfl
  have h1t : Tryd.prog.cellsOf 22 = 1 := by kernel_rfl
  have h1f : Tryd.prog.cellsOf 23 = 1 := by kernel_rfl
  have h2 : Tryd.prog.cellsOf 25 = 4 := by kernel_rfl
  obtain ⟨xs, n', _, rfl, hcl, hxl, hf⟩ := DataW.trod_struct Tryd.underlying25 h
  rw [h2] at hcl
  obtain ⟨v0, v1, v2, v3, rfl⟩ := len4 hcl
  obtain ⟨x0, x1, x2, x3, rfl⟩ := len4 (n := 4) hxl
  have f0 : DataW.trod enc Tryd.prog W base sp held n' 22 [v0] = some x0 := by
    have k := hf 0 _ (by rfl)
    simpa [h1c, h1t, h1f] using k
  have f1 : DataW.trod enc Tryd.prog W base sp held n' 23 [v1] = some x1 := by
    have k := hf 1 _ (by rfl)
    simpa [h1c, h1t, h1f] using k
  have f2 : DataW.trod enc Tryd.prog W base sp held n' 3 [v2] = some x2 := by
    have k := hf 2 _ (by rfl)
    simpa [h1c, h1t, h1f] using k
  have f3 : DataW.trod enc Tryd.prog W base sp held n' 3 [v3] = some x3 := by
    have k := hf 3 _ (by rfl)
    simpa [h1c, h1t, h1f] using k
  obtain ⟨k2, rfl, _⟩ := trod_int2 f2
  obtain ⟨k3, rfl, hk3⟩ := trod_int2 f3
  obtain ⟨A, c, ts, e1, hT, hm, hp, ho⟩ := sl_types2 f0 (fun n hn => hw n (by
    simp only [DataW.weights, Tryd.underlying25, List.map_cons, List.map_nil, DataW.weightsEach, List.mem_append]
    exact .inl hn))
  obtain ⟨FA, fc, fs, e2, hF, hfm, hfi⟩ := sl_funcs f1 (fun n hn => hw n (by
    simp only [DataW.weights, Tryd.underlying25, List.map_cons, List.map_nil, DataW.weightsEach, List.mem_append]
    exact .inr (.inl hn)))
  obtain rfl : v0 = _ := by simpa using e1
  obtain rfl : v1 = _ := by simpa using e2
  exact ⟨A, c, ts, FA, fc, fs, k2, k3, rfl, hT, hm, hp, ho, hF, hfm, wf_le hk3, hfi⟩
end
end Go.Proofs.YtdilmfnijkjiaaaDoor.K
