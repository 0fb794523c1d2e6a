import Derived.Test.YtdilmfnijkjiaaaDoorKArg2
import Derived.Handed
set_option maxRecDepth 100000
namespace Go.Proofs.YtdilmfnijkjiaaaDoor.K
open Go.RowKit Go.Deep Go.ChangeShapes
/-- An instruction's three cells. -/
def InsAt (w : World) (ad : Addr) (j : Nat) (t : Ins) : Prop :=
  w.cell? (ad.add (j * 3)) = some (.int .i64 t.op) ∧ w.cell? (ad.add (j * 3 + 1)) = some (.int .i64 t.a) ∧ w.cell? (ad.add (j * 3 + 2)) = some (.int .i64 t.b)
def InsSl (w : World) (A : Option Addr) (c : Nat) (ts : List Ins) : Prop :=
  ts.length ≤ c ∧ c ≤ 9223372036854775807 ∧ (A = none → c = 0) ∧ ∀ ad, A = some ad → ∀ j t, ts[j]? = some t → InsAt w ad j t
theorem InsAt.below {w w1 : World} {ad : Addr} {j : Nat} {t : Ins} (h : InsAt w ad j t) (hb : Below w.heap.size w w1) : InsAt w1 ad j t :=
  ⟨cell_below hb h.1, cell_below hb h.2.1, cell_below hb h.2.2⟩
theorem InsSl.below {w w1 : World} {A : Option Addr} {c : Nat} {xs : List Ins} (h : InsSl w A c xs) (hb : Below w.heap.size w w1) : InsSl w1 A c xs :=
  ⟨h.1, h.2.1, h.2.2.1, fun ad e j x hj => (h.2.2.2 ad e j x hj).below hb⟩
def InsIn (t : Ins) : Prop := t.op ≤ 9223372036854775807 ∧ t.a ≤ 9223372036854775807 ∧ t.b ≤ 9223372036854775807 ∧ -9223372036854775808 ≤ t.op ∧ -9223372036854775808 ≤ t.a ∧ -9223372036854775808 ≤ t.b
section
variable {H : Type} {enc : TypeId × Value → H} {W : World} {base : Nat} {sp : Nat → Bool} {held : Bool}
theorem wf_ge {n : Int} (h : (Lit.int .i64 n).wf = true) : -9223372036854775808 ≤ n := by
  simp only [Lit.wf, Bool.and_eq_true, decide_eq_true_eq] at h
  have h2 := h.1
  have e : IntKind.i64.min = -9223372036854775808 := by decide
  omega
theorem in_open2 {fuel : Nat} {cs : List Value} {x : DataW H × List MemPlace} (h : DataW.trod enc Tryd.prog W base sp held fuel 27 cs = some x) : ∃ op a b, cs = [.int .i64 op, .int .i64 a, .int .i64 b] ∧ InsIn ⟨op, a, b⟩ := by
  have h1c : Tryd.prog.cellsOf 3 = 1 := by kernel_rfl
  have h2 : Tryd.prog.cellsOf 27 = 3 := by kernel_rfl
  obtain ⟨xs, n', _, rfl, hcl, hxl, hf⟩ := DataW.trod_struct Tryd.underlying27 h
  rw [h2] at hcl
  obtain ⟨v0, v1, v2, rfl⟩ := len3 hcl
  obtain ⟨x0, x1, x2, rfl⟩ := len3 (n := 3) hxl
  have f0 : DataW.trod enc Tryd.prog W base sp held n' 3 [v0] = some x0 := by
    have k := hf 0 _ (by rfl)
    simpa [h1c] using k
  have f1 : DataW.trod enc Tryd.prog W base sp held n' 3 [v1] = some x1 := by
    have k := hf 1 _ (by rfl)
    simpa [h1c] using k
  have f2 : DataW.trod enc Tryd.prog W base sp held n' 3 [v2] = some x2 := by
    have k := hf 2 _ (by rfl)
    simpa [h1c] using k
  obtain ⟨k0, rfl, w0⟩ := trod_int2 f0
  obtain ⟨k1, rfl, w1⟩ := trod_int2 f1
  obtain ⟨k2, rfl, w2⟩ := trod_int2 f2
  exact ⟨k0, k1, k2, rfl, wf_le w0, wf_le w1, wf_le w2, wf_ge w0, wf_ge w1, wf_ge w2⟩
theorem sl_ins {fuel : Nat} {cs : List Value} {x : DataW H × List MemPlace} (h : DataW.trod enc Tryd.prog W base sp held fuel 61 cs = some x) (hw : ∀ n ∈ x.1.weights Tryd.prog 61, n ≤ reachBytes) :
    ∃ A c ts, cs = [.slice A ts.length c] ∧ InsSl W A c ts ∧ ts.length * 24 ≤ 140737488351232 ∧ ∀ t ∈ ts, InsIn t := by
  have hR : reachBytes = 140737488351232 := rfl
  rcases open_slice Tryd.underlying61 h with ⟨rfl, rfl⟩ | ⟨a, len, cap, m, n, D, Pl, rfl, hb, hl, hm, hmm, rfl, hx⟩
  · exact ⟨none, 0, [], rfl, ⟨by simp, by omega, fun _ => rfl, (fun ad e => by cases e)⟩, by simp, by simp⟩
  have hc : Tryd.prog.cellsOf 27 = 3 := by kernel_rfl
  have hby : Tryd.prog.bytesOf 27 = 24 := by kernel_rfl
  rw [hc] at hx
  have hml : len ≤ m := by rw [hmm]; split <;> omega
  have hm' : cap ≤ 9223372036854775807 := hm
  have hall : ∀ i, i < len → ∃ t : Ins, InsAt W a i t ∧ InsIn t := fun i hi => by
    obtain ⟨cs', h1, h2⟩ := hx i (by omega)
    obtain ⟨_, h3, h4⟩ := World.cells?_some h1
    obtain ⟨op, x1, x2, rfl, hin⟩ := in_open2 h2
    have c0 := h4 0 (by omega)
    have c1 := h4 1 (by omega)
    have c2 := h4 2 (by omega)
    simp only [List.getElem?_cons_zero, List.getElem?_cons_succ] at c0 c1 c2
    rw [Addr.add_add] at c0 c1 c2
    exact ⟨⟨op, x1, x2⟩, ⟨c0, c1, c2⟩, hin⟩
  classical
  have hall' : ∀ i, ∃ t : Ins, i < len → InsAt W a i t ∧ InsIn t := fun i => by
    by_cases hi : i < len
    · obtain ⟨t, ht⟩ := hall i hi
      exact ⟨t, fun _ => ht⟩
    · exact ⟨⟨0, 0, 0⟩, fun h => absurd h hi⟩
  let f : Nat → Ins := fun i => Classical.choose (hall' i)
  have hf : ∀ i, i < len → InsAt W a i (f i) ∧ InsIn (f i) := fun i hi => Classical.choose_spec (hall' i) hi
  have e : ((List.range len).map f).length = len := by simp
  refine ⟨some a, cap, (List.range len).map f, by rw [e], ⟨by rw [e]; exact hl, hm', (fun e => by cases e), fun ad e1 j t hj => ?_⟩, ?_, fun t ht => ?_⟩
  · obtain rfl := Option.some.inj e1
    have hj' := (List.getElem?_eq_some_iff.1 hj).1
    rw [e] at hj'
    obtain rfl : f j = t := by simpa [hj'] using hj
    exact (hf j hj').1
  · have k := hw ((((List.range len).map D).length + ((List.range (m - len)).map fun j => D (len + j)).length) * 24) (by
      simp only [DataW.weights, Tryd.underlying61, hby]
      exact List.mem_cons_self)
    simp only [List.length_map, List.length_range] at k ⊢
    omega
  · obtain ⟨i, hi, rfl⟩ := List.mem_map.1 ht
    exact (hf i (List.mem_range.1 hi)).2
theorem pl4_open {fuel : Nat} {cs : List Value} {x : DataW H × List MemPlace} (h : DataW.trod enc Tryd.prog W base sp held fuel 76 cs = some x) (hw : ∀ n ∈ x.1.weights Tryd.prog 76, n ≤ reachBytes) :
    ∃ A c ts FA fc fs locals code, cs = [.slice A ts.length c, .slice FA fs.length fc, .int .i64 locals, .int .i64 code] ∧ TySl W A c ts ∧ ts.length * 40 ≤ 140737488351232 ∧ (∀ t ∈ ts, t.parts.length * 8 ≤ 140737488351232) ∧ (∀ t ∈ ts, t.of ≤ 9223372036854775807) ∧
      FnSl W FA fc fs ∧ fs.length * 8 ≤ 140737488351232 ∧ (∀ f ∈ fs, FnIn f) ∧ (locals ≤ 9223372036854775807 ∧ -9223372036854775808 ≤ locals) ∧ (code ≤ 9223372036854775807 ∧ -9223372036854775808 ≤ code) := by
  have h1c : Tryd.prog.cellsOf 3 = 1 := by kernel_rfl
  have h1t : Tryd.prog.cellsOf 22 = 1 := by kernel_rfl
  have h1f : Tryd.prog.cellsOf 23 = 1 := by kernel_rfl
  have h2 : Tryd.prog.cellsOf 76 = 4 := by kernel_rfl
  obtain ⟨xs, n', _, rfl, hcl, hxl, hf⟩ := DataW.trod_struct Tryd.underlying76 h
  rw [h2] at hcl
  obtain ⟨v0, v1, v2, v3, rfl⟩ := len4 hcl
  obtain ⟨x0, x1, x2, x3, rfl⟩ := len4 (n := 4) hxl
  have f0 : DataW.trod enc Tryd.prog W base sp held n' 22 [v0] = some x0 := by
    have k := hf 0 _ (by rfl)
    simpa [h1c, h1t, h1f] using k
  have f1 : DataW.trod enc Tryd.prog W base sp held n' 23 [v1] = some x1 := by
    have k := hf 1 _ (by rfl)
    simpa [h1c, h1t, h1f] using k
  have f2 : DataW.trod enc Tryd.prog W base sp held n' 3 [v2] = some x2 := by
    have k := hf 2 _ (by rfl)
    simpa [h1c, h1t, h1f] using k
  have f3 : DataW.trod enc Tryd.prog W base sp held n' 3 [v3] = some x3 := by
    have k := hf 3 _ (by rfl)
    simpa [h1c, h1t, h1f] using k
  obtain ⟨k2, rfl, hk2⟩ := trod_int2 f2
  obtain ⟨k3, rfl, hk3⟩ := trod_int2 f3
  obtain ⟨A, c, ts, e1, hT, hm, hp, ho⟩ := sl_types2 f0 (fun n hn => hw n (by
    simp only [DataW.weights, Tryd.underlying76, List.map_cons, List.map_nil, DataW.weightsEach, List.mem_append]
    exact .inl hn))
  obtain ⟨FA, fc, fs, e2, hF, hfm, hfi⟩ := sl_funcs f1 (fun n hn => hw n (by
    simp only [DataW.weights, Tryd.underlying76, List.map_cons, List.map_nil, DataW.weightsEach, List.mem_append]
    exact .inr (.inl hn)))
  obtain rfl : v0 = _ := by simpa using e1
  obtain rfl : v1 = _ := by simpa using e2
  exact ⟨A, c, ts, FA, fc, fs, k2, k3, rfl, hT, hm, hp, ho, hF, hfm, hfi, ⟨wf_le hk2, wf_ge hk2⟩, wf_le hk3, wf_ge hk3⟩
end
section
variable {H : Type} {enc : TypeId × Value → H}
/-- A row whose worlds meet X and have the program's shape. -/
theorem handed_and_shaped {a : Assume} {C : Checked} {os : Os} {f : FuncId} {fn : Func} {s : ChangeSpec} {conds : List PathCond} {apart fresh handsOn again : Bool} {X : World → Array Value → Prop}
    (hX : ∀ (w w' : World) (args : Array Value), w.heap = w'.heap → X w args → X w' args)
    (own : ownKnob C.prog.godebug = none) (started : os.Started) (noInit : C.prog.inits.idxOf? f = none) (hfn : C.prog.funcs[f]? = some fn)
    (witness : ∃ (w : World) (tape : Tape) (i : Input), w.os = os ∧ (w.forCall tape i).Shaped C.prog ∧ i.vars = [] ∧ Input.okWide C.prog (w.forCall tape i) .any w.heap.size f i ∧
      ((s.pre enc C.prog fn conds apart (w.forCall tape i).memory i.args ∧ X (w.forCall tape i).memory i.args) ∧ sizedMet enc C.prog fn (OpenSpec.ofChange s) apart (w.forCall tape i).memory i.args) ∧ a.holds C.prog (lone (Frame.enter C.prog f i.args .normal) [] (w.forCall tape i)))
    (contract : ∀ (W : World) (base : Nat) (args : Array Value) (ds gs : List (DataW H)) (before : List MemPlace),
      (∀ (j : Nat) t v, fn.params[j]? = some t → args[j]? = some v → Value.okWide C.prog W .any base t v) →
      DataW.Whole enc C.prog fn.params.toList s.vars apart W args.toList ds gs before →
      (DataW.weightsEach C.prog (fn.params.toList ++ s.plain.varTypes C.prog) (ds ++ gs)).all (· ≤ reachBytes) = true → X W args → W.ShapedOpen C.prog →
      Calls C.prog f args W fun e W' => ∃ v, e = .returned v ∧ s.post enc C.prog fn apart fresh handsOn again W args v W') :
    ReturnsInHanded a C os f .any (fun w args => (s.pre enc C.prog fn conds apart w args ∧ X w args) ∧ sizedMet enc C.prog fn (OpenSpec.ofChange s) apart w args) (s.post enc C.prog fn apart fresh handsOn again) := by
  refine returnsInHanded_of_calls own started noInit witness ?_
  rintro w tape i - hsh - ⟨_, _, _, fn', hfn', _, _, _, _, hval⟩ ⟨⟨⟨ds, gs, before, hw, -⟩, hx⟩, hz⟩ -
  cases Option.some.inj (hfn'.symm.trans hfn)
  refine (contract (w.forCall tape i) w.heap.size i.args ds gs before hval (DataW.Whole.of_heap (w' := w.forCall tape i) (by rfl) hw) (hz.weights hw) (hX _ _ _ (by rfl) hx) hsh).mono ?_
  rintro e W' ⟨v, rfl, hp⟩
  exact ChangeSpec.post_blind hp
end
end Go.Proofs.YtdilmfnijkjiaaaDoor.K
