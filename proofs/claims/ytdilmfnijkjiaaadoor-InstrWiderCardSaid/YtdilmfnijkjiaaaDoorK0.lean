import Derived.Test.YtdilmfnijkjiaaaDoorProg
import Derived.WalkKit
import Derived.KernelRfl
import Derived.Below
import Derived.Deep.Draws
import Derived.Deep.QuietTactic
import Derived.BigQuiet
import Derived.Lib.Hide
import Derived.Deep.DeepFit
import Derived.WalkSpells
import Derived.Maps.AppendAt
import Derived.Laws.AppendOwnNone
set_option maxRecDepth 100000
namespace Go.Proofs.YtdilmfnijkjiaaaDoor.K
open Go.RowKit

/-- A type of the program's list. -/
structure Ty where
  kind : Int
  parts : List Int
  of : Int
/-- An instruction. -/
structure Ins where
  op : Int
  a : Int
  b : Int
  deriving DecidableEq
/-- A function. -/
structure Fn where
  params : List Int
  result : Int
  locals : Int
  code : List Ins

/-- A slice of ints that reads as xs. -/
def IntSl (w : World) (A : Option Addr) (c : Nat) (xs : List Int) : Prop :=
  xs.length ≤ c ∧ c ≤ 9223372036854775807 ∧ (A = none → c = 0) ∧ ∀ ad, A = some ad → ∀ j x, xs[j]? = some x → w.cell? (ad.add j) = some (.int .i64 x)

/-- A type's three cells. -/
def TyAt (w : World) (ad : Addr) (j : Nat) (t : Ty) : Prop :=
  ∃ A c, w.cell? (ad.add (j * 3)) = some (.int .i64 t.kind) ∧ w.cell? (ad.add (j * 3 + 1)) = some (.slice A t.parts.length c) ∧ w.cell? (ad.add (j * 3 + 2)) = some (.int .i64 t.of) ∧ IntSl w A c t.parts
def TySl (w : World) (A : Option Addr) (c : Nat) (ts : List Ty) : Prop :=
  ts.length ≤ c ∧ c ≤ 9223372036854775807 ∧ (A = none → c = 0) ∧ ∀ ad, A = some ad → ∀ j t, ts[j]? = some t → TyAt w ad j t

theorem cell_below {w w1 : World} (h : Below w.heap.size w w1) {a : Addr} {v : Value} (hc : w.cell? a = some v) : w1.cell? a = some v := (h.cell (World.block_lt_of_cell? w a hc)).trans hc
theorem IntSl.below {w w1 : World} {A : Option Addr} {c : Nat} {xs : List Int} (h : IntSl w A c xs) (hb : Below w.heap.size w w1) : IntSl w1 A c xs :=
  ⟨h.1, h.2.1, h.2.2.1, fun ad e j x hj => cell_below hb (h.2.2.2 ad e j x hj)⟩
theorem TyAt.below {w w1 : World} {ad : Addr} {j : Nat} {t : Ty} (h : TyAt w ad j t) (hb : Below w.heap.size w w1) : TyAt w1 ad j t := by
  obtain ⟨A, c, h0, h1, h2, h3⟩ := h
  exact ⟨A, c, cell_below hb h0, cell_below hb h1, cell_below hb h2, h3.below hb⟩
theorem TySl.below {w w1 : World} {A : Option Addr} {c : Nat} {xs : List Ty} (h : TySl w A c xs) (hb : Below w.heap.size w w1) : TySl w1 A c xs :=
  ⟨h.1, h.2.1, h.2.2.1, fun ad e j x hj => (h.2.2.2 ad e j x hj).below hb⟩

/-- The table at block g. -/
def Tab (w : World) (g : Nat) (ts : List Ty) : Prop :=
  ∃ A c L n lc, w.heap[g]? = some (.cells #[.slice A ts.length c, .slice L n lc] 100 (0, 0)) ∧ TySl w A c ts
theorem Tab.below {w w1 : World} {g : Nat} {xs : List Ty} (h : Tab w g xs) (hb : Below w.heap.size w w1) : Tab w1 g xs := by
  obtain ⟨A, c, L, n, lc, h0, h1⟩ := h
  exact ⟨A, c, L, n, lc, (hb.block g (Array.getElem?_eq_some_iff.1 h0).1).trans h0, h1.below hb⟩

theorem add_field (ad : Addr) (m j : Nat) (hj : 0 < j) : ad.add (m + j) = ⟨(ad.add m).block, (ad.add m).off + j, none⟩ := by
  unfold Addr.add
  by_cases hm : m = 0
  · subst hm
    simp [Nat.ne_of_gt hj]
  · simp [hm, Nat.add_assoc]

def ty0 : Ty := ⟨0, [], 0⟩
def tyAt (ts : List Ty) (n : Int) : Ty := ts.getD n.toNat ty0
/-- What is read of type n of a slice of types. -/
theorem TySl.get {w : World} {A : Option Addr} {c : Nat} {ts : List Ty} (h : TySl w A c ts) (n : Int) (h0 : 0 ≤ n) (h1 : n < ts.length) :
    ∃ ad A' c', A = some ad ∧ w.cell? (ad.add (n.toNat * 3)) = some (.int .i64 (tyAt ts n).kind) ∧ w.cell? ⟨(ad.add (n.toNat * 3)).block, (ad.add (n.toNat * 3)).off + 1, none⟩ = some (.slice A' (tyAt ts n).parts.length c') ∧
      w.cell? ⟨(ad.add (n.toNat * 3)).block, (ad.add (n.toNat * 3)).off + 2, none⟩ = some (.int .i64 (tyAt ts n).of) ∧ IntSl w A' c' (tyAt ts n).parts := by
  obtain ⟨hl, hc, hn, ha⟩ := h
  cases A with
  | none => have := hn rfl; omega
  | some ad =>
    have hi : n.toNat < ts.length := by omega
    have e : ts[n.toNat]? = some (tyAt ts n) := by unfold tyAt; rw [List.getD_eq_getElem?_getD, List.getElem?_eq_getElem hi]; rfl
    obtain ⟨A', c', g0, g1, g2, g3⟩ := ha ad rfl _ _ e
    rw [add_field _ _ _ (by omega)] at g1 g2
    exact ⟨ad, A', c', rfl, g0, g1, g2, g3⟩

def nums (xs : List Int) : List Value := xs.map (Value.int .i64)
theorem nums_length (xs : List Int) : (nums xs).length = xs.length := by simp [nums]
theorem info3 : (Tryd.prog.info? 3).map (fun i => (i.zero, i.size, i.bytes)) = some (some (.int .i64 0), 1, 8) := by kernel_rfl
theorem info_parts {P : Program} {e : Nat} {z : Option Value} {s b : Nat} (h : (P.info? e).map (fun i => (i.zero, i.size, i.bytes)) = some (z, s, b)) : ∃ i, P.info? e = some i ∧ i.zero = z ∧ i.size = s ∧ i.bytes = b := by
  obtain ⟨i, hi, hz⟩ := Option.map_eq_some_iff.1 h
  simp only [Prod.mk.injEq] at hz
  exact ⟨i, hi, hz.1, hz.2.1, hz.2.2⟩

/-- A row of the call's own that reads as xs. -/
def OwnInts (w : World) (base : Nat) (v : Value) (xs : List Int) : Prop := w.ownsRow base 3 1 v xs.length (nums xs)
theorem add_zero_off (g j : Nat) : (⟨g, 0, none⟩ : Addr).add j = ⟨g, j, none⟩ := by unfold Addr.add; split <;> simp_all
theorem OwnInts.sl {w : World} {base : Nat} {v : Value} {xs : List Int} (h : OwnInts w base v xs) : ∃ A c, v = .slice A xs.length c ∧ IntSl w A c xs := by
  have h0 : w.ownsRow base 3 1 v xs.length (nums xs) := h
  rcases h.2 with ⟨hv, h1⟩ | ⟨g, cap, cur, hv, hb, hg, h1, h2, h3, h4⟩
  · have : xs = [] := List.eq_nil_of_length_eq_zero h1
    subst this
    exact ⟨none, 0, hv, Nat.le_refl _, by omega, fun _ => rfl, fun ad e => by cases e⟩
  · refine ⟨_, cap, hv, h1, by simp only [maxLen] at h2; omega, (fun e => by cases e), fun ad e j x hj => ?_⟩
    obtain rfl := Option.some.inj e
    exact h0.cells (g := g) (by rw [hv]; rfl) j _ (by simp [nums, hj])
theorem OwnInts.block {w : World} {base : Nat} {v : Value} {xs : List Int} (h : OwnInts w base v xs) : ∀ k, v.ownBlock = some k → base ≤ k ∧ k < w.heap.size := World.ownsRow.lt h

section
variable {ops : Array Oper} {rest : List Oper} {o : Oper} {a : Act} {Q : Exit → Act → World → Prop}
/-- append(v, ys...) of ints onto a row of the call's own. -/
theorem app_ints (w : World) (hgd : o.guard = none) (s x : Operand) (ho : o.op = .call { callee := .builtin .append, args := #[s, x], argTypes := #[28, 28] })
    (base : Nat) (v : Value) (xs : List Int) (hs : a.eval s = v) (hown : OwnInts w base v xs) (B : Option Addr) (c : Nat) (ys : List Int) (hx : a.eval x = .slice B ys.length c) (hy : IntSl w B c ys)
    (hl : (xs.length + ys.length) * 8 ≤ 140737488355328) (hbase : base ≤ w.heap.size)
    (k : ∀ v' w', OwnInts w' base v' (xs ++ ys) → w.grownBy w' v.ownBlock → (v'.ownBlock = v.ownBlock ∨ v'.ownBlock = some w.heap.size) → wpList Tryd.prog ops Q rest (a.put o.dst v') w') :
    wpList Tryd.prog ops Q (o :: rest) a w := by
  obtain ⟨i, hi, hz, hsz, hby⟩ := info_parts info3
  cases B with
  | none =>
    have h0 := hy.2.2.1 rfl
    have hy0 : ys = [] := List.eq_nil_of_length_eq_zero (by have := hy.1; omega)
    subst hy0
    subst h0
    refine wpList_append_own_none hgd s x 28 ho base 3 i 1 Tryd.underlying28 hi v xs.length (nums xs) hs hown (by simpa using hx) ?_
    exact k v w (by simpa using hown) ⟨rfl, rfl, rfl, Nat.le_refl _, fun _ _ _ => rfl⟩ (.inl rfl)
  | some ad =>
    refine wpList_append_own_at w hgd s x 28 ho base 3 i (.int .i64 0) 1 8 Tryd.underlying28 hi hz hsz hby rfl (by decide) v xs.length (nums xs) hs hown ad ys.length c (nums ys) hx (by simp [nums])
      (fun j u hj => ?_) (fun u hu => ?_) (by simp only [maxLen]; omega) (by omega) hbase ?_
    · simp only [nums, List.getElem?_map, Option.map_eq_some_iff] at hj
      obtain ⟨y, hj, rfl⟩ := hj
      exact hy.2.2.2 ad rfl j y hj
    · simp only [nums, List.mem_map] at hu
      obtain ⟨y, _, rfl⟩ := hu
      rfl
    · intro v' w' h1 h2 _ h4
      refine k v' w' ?_ h2 h4
      unfold OwnInts
      simpa [nums] using h1
end
theorem below_refl (w : World) : Below w.heap.size w w := Below.refl _ _
theorem below_of_grown {w w1 w2 : World} {row : Option Nat} (h : Below w.heap.size w w1) (hg : w1.grownBy w2 row) (hr : ∀ k, row = some k → w.heap.size ≤ k) : Below w.heap.size w w2 := h.grown hg h.size hr
theorem OwnInts.empty (w : World) : OwnInts (w.alloc (.cells #[] 3)) w.heap.size (.slice (some ⟨w.heap.size, 0, none⟩) 0 0) [] := World.ownsRow_made w #[] 0 (Nat.le_refl _) (Nat.zero_le _) rfl
theorem OwnInts.nil (w : World) (b : Nat) : OwnInts w b (.slice none 0 0) [] := World.ownsRow_nil w b 3 1
end Go.Proofs.YtdilmfnijkjiaaaDoor.K
