import Derived.Test.YtdilmfnijkjiaaaDoorK23
set_option maxRecDepth 100000
set_option linter.unusedSimpArgs false
set_option linter.unusedVariables false
namespace Go.Proofs.YtdilmfnijkjiaaaDoor.K
open Go.RowKit
/-- A slice of strings that reads as xs. -/
def StrSl (w : World) (A : Option Addr) (c : Nat) (xs : List ByteArray) : Prop :=
  xs.length ≤ c ∧ c ≤ 9223372036854775807 ∧ (A = none → c = 0) ∧ ∀ ad, A = some ad → ∀ j x, xs[j]? = some x → w.cell? (ad.add j) = some (.string x)
theorem StrSl.below {w w1 : World} {A : Option Addr} {c : Nat} {xs : List ByteArray} (h : StrSl w A c xs) (hb : Below w.heap.size w w1) : StrSl w1 A c xs :=
  ⟨h.1, h.2.1, h.2.2.1, fun ad e j x hj => cell_below hb (h.2.2.2 ad e j x hj)⟩
def strs (xs : List ByteArray) : List Value := xs.map Value.string
theorem info9 : (Tryd.prog.info? 9).map (fun i => (i.zero, i.size, i.bytes)) = some (some (.string ⟨#[]⟩), 1, 16) := by kernel_rfl
def OwnStrs (w : World) (base : Nat) (v : Value) (xs : List ByteArray) : Prop := w.ownsRow base 9 1 v xs.length (strs xs)
theorem OwnStrs.sl {w : World} {base : Nat} {v : Value} {xs : List ByteArray} (h : OwnStrs w base v xs) : ∃ A c, v = .slice A xs.length c ∧ StrSl w A c xs := by
  have h0 : w.ownsRow base 9 1 v xs.length (strs xs) := h
  rcases h.2 with ⟨hv, h1⟩ | ⟨g, cap, cur, hv, hb, hg, h1, h2, h3, h4⟩
  · have : xs = [] := List.eq_nil_of_length_eq_zero h1
    subst this
    exact ⟨none, 0, hv, Nat.le_refl _, by omega, fun _ => rfl, fun ad e => by cases e⟩
  · refine ⟨_, cap, hv, h1, by simp only [maxLen] at h2; omega, (fun e => by cases e), fun ad e j x hj => ?_⟩
    obtain rfl := Option.some.inj e
    exact h0.cells (g := g) (by rw [hv]; rfl) j _ (by simp [strs, hj])
theorem OwnStrs.nil (w : World) (b : Nat) : OwnStrs w b (.slice none 0 0) [] := World.ownsRow_nil w b 9 1
theorem OwnStrs.kept {w w' : World} {base : Nat} {v : Value} {xs : List ByteArray} (h : OwnStrs w base v xs) {row : Option Nat} (hg : w.grownBy w' row) (hne : v.ownBlock = none ∨ v.ownBlock ≠ row) : OwnStrs w' base v xs := World.ownsRow.kept h hg hne
theorem OwnStrs.below {w w' : World} {base : Nat} {v : Value} {xs : List ByteArray} (h : OwnStrs w base v xs) (hb : Below w.heap.size w w') : OwnStrs w' base v xs := h.kept (grown_of_below hb) (by cases v.ownBlock <;> simp)
theorem OwnStrs.block {w : World} {base : Nat} {v : Value} {xs : List ByteArray} (h : OwnStrs w base v xs) : ∀ k, v.ownBlock = some k → base ≤ k ∧ k < w.heap.size := World.ownsRow.lt h
section
variable {ops : Array Oper} {rest : List Oper} {o : Oper} {a : Act} {Q : Exit → Act → World → Prop}
/-- append(v, ys...) of strings onto a row of the call's own. -/
theorem app_strs (w : World) (hgd : o.guard = none) (s x : Operand) (ho : o.op = .call { callee := .builtin .append, args := #[s, x], argTypes := #[66, 66] })
    (base : Nat) (v : Value) (xs : List ByteArray) (hs : a.eval s = v) (hown : OwnStrs w base v xs) (B : Option Addr) (c : Nat) (ys : List ByteArray) (hx : a.eval x = .slice B ys.length c) (hy : StrSl w B c ys)
    (hl : (xs.length + ys.length) * 16 ≤ 140737488355328) (hbase : base ≤ w.heap.size)
    (k : ∀ v' w', OwnStrs w' base v' (xs ++ ys) → w.grownBy w' v.ownBlock → (v'.ownBlock = v.ownBlock ∨ v'.ownBlock = some w.heap.size) → wpList Tryd.prog ops Q rest (a.put o.dst v') w') :
    wpList Tryd.prog ops Q (o :: rest) a w := by
  obtain ⟨i, hi, hz, hsz, hby⟩ := info_parts info9
  cases B with
  | none =>
    have h0 := hy.2.2.1 rfl
    have hy0 : ys = [] := List.eq_nil_of_length_eq_zero (by have := hy.1; omega)
    subst hy0
    subst h0
    refine wpList_append_own_none hgd s x 66 ho base 9 i 1 Tryd.underlying66 hi v xs.length (strs xs) hs hown (by simpa using hx) ?_
    exact k v w (by simpa using hown) ⟨rfl, rfl, rfl, Nat.le_refl _, fun _ _ _ => rfl⟩ (.inl rfl)
  | some ad =>
    refine wpList_append_own_at w hgd s x 66 ho base 9 i (.string ⟨#[]⟩) 1 16 Tryd.underlying66 hi hz hsz hby rfl (by decide) v xs.length (strs xs) hs hown ad ys.length c (strs ys) hx (by simp [strs])
      (fun j u hj => ?_) (fun u hu => ?_) (by simp only [maxLen]; omega) (by omega) hbase ?_
    · simp only [strs, List.getElem?_map, Option.map_eq_some_iff] at hj
      obtain ⟨y, hj, rfl⟩ := hj
      exact hy.2.2.2 ad rfl j y hj
    · simp only [strs, List.mem_map] at hu
      obtain ⟨y, _, rfl⟩ := hu
      rfl
    · intro v' w' h1 h2 _ h4
      refine k v' w' ?_ h2 h4
      unfold OwnStrs
      simpa [strs] using h1
end
end Go.Proofs.YtdilmfnijkjiaaaDoor.K
