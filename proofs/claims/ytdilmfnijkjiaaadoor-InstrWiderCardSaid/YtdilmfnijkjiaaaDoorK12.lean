import Derived.Test.YtdilmfnijkjiaaaDoorK11
import Derived.Deep.RegionHeld3
import Derived.Deep.LoopGhost
import Derived.Deep.OwnRows
set_option maxRecDepth 100000
set_option linter.unusedSimpArgs false
set_option linter.unusedVariables false
namespace Go.Proofs.YtdilmfnijkjiaaaDoor.K
open Go.RowKit
/-! A world without block g. -/
def less (w : World) (g : Nat) : World := { w with heap := w.heap.setIfInBounds g (.pending #[] 0) }
theorem less_size (w : World) (g : Nat) : (less w g).heap.size = w.heap.size := by simp [less]
theorem less_heap (w : World) (g k : Nat) (h : k ≠ g) : (less w g).heap[k]? = w.heap[k]? := by simp [less, Array.getElem?_setIfInBounds, Ne.symm h]
theorem less_cell {w : World} {g : Nat} {a : Addr} {v : Value} (h : (less w g).cell? a = some v) : a.block ≠ g ∧ w.cell? a = some v := by
  by_cases e : a.block = g
  · exfalso
    by_cases hl : g < w.heap.size
    · simp [World.cell?, less, e, Array.getElem?_setIfInBounds, hl] at h
    · simp [World.cell?, less, e, Array.getElem?_setIfInBounds, hl] at h
  · refine ⟨e, ?_⟩
    rwa [World.cell?_of_block (less_heap w g _ e)] at h
structure But (g : Nat) (w w' : World) : Prop where
  os : w'.os = w.os
  tape : w'.tape = w.tape
  output : w'.output = w.output
  size : w.heap.size ≤ w'.heap.size
  block : ∀ k, k < w.heap.size → k ≠ g → w'.heap[k]? = w.heap[k]?
theorem But.refl (g : Nat) (w : World) : But g w w := ⟨rfl, rfl, rfl, Nat.le_refl _, fun _ _ _ => rfl⟩
theorem But.trans {g : Nat} {a b c : World} (h : But g a b) (k : But g b c) : But g a c :=
  ⟨k.os.trans h.os, k.tape.trans h.tape, k.output.trans h.output, Nat.le_trans h.size k.size, fun i hi hn => (k.block i (Nat.lt_of_lt_of_le hi h.size) hn).trans (h.block i hi hn)⟩
theorem But.of_below {g : Nat} {w w' : World} (h : Below w.heap.size w w') : But g w w' := ⟨h.os, h.tape, h.output, h.size, fun k hk _ => h.block k hk⟩
theorem But.below {g : Nat} {a w w' : World} (h : But g a w) (k : Below w.heap.size w w') : But g a w' := h.trans (.of_below k)
theorem But.alloc {g : Nat} {a w : World} {o : Obj} (h : But g a w) : But g a (w.alloc o) := h.below (below_alloc' (below_refl w))
theorem But.drewN {g : Nat} {a w : World} {n : Nat} (h : But g a w) : But g a (w.drewN n) := ⟨h.os, h.tape, h.output, h.size, h.block⟩
theorem But.drew {g : Nat} {a w : World} (h : But g a w) : But g a w.drew := ⟨h.os, h.tape, h.output, h.size, h.block⟩
theorem But.set {g : Nat} {a w : World} {p : Addr} {u : Value} (h : But g a w) (hp : p.block = g ∨ a.heap.size ≤ p.block) : But g a (w.setCell p u) :=
  ⟨h.os, h.tape, h.output, by simp [World.setCell]; exact h.size, fun k hk hn => by rw [Below.heap_setCell _ _ _ _ (by omega)]; exact h.block k hk hn⟩
theorem But.less {g : Nat} {w w' : World} (h : But g w w') : Below (K.less w g).heap.size (K.less w g) (K.less w' g) := by
  refine ⟨h.os, h.tape, h.output, by rw [less_size, less_size]; exact h.size, fun k hk => ?_⟩
  rw [less_size] at hk
  by_cases e : k = g
  · subst e
    have h2 : k < w'.heap.size := Nat.lt_of_lt_of_le hk h.size
    simp [K.less, Array.getElem?_setIfInBounds, hk, h2]
  · rw [less_heap _ _ _ e, less_heap _ _ _ e, h.block k hk e]
theorem IntSl.of_less {w : World} {g : Nat} {A : Option Addr} {c : Nat} {xs : List Int} (h : IntSl (less w g) A c xs) : IntSl w A c xs := ⟨h.1, h.2.1, h.2.2.1, fun ad e j x hj => (less_cell (h.2.2.2 ad e j x hj)).2⟩
theorem TySl.of_less {w : World} {g : Nat} {A : Option Addr} {c : Nat} {xs : List Ty} (h : TySl (less w g) A c xs) : TySl w A c xs :=
  ⟨h.1, h.2.1, h.2.2.1, fun ad e j x hj => by
    obtain ⟨A', c', h0, h1, h2, h3⟩ := h.2.2.2 ad e j x hj
    exact ⟨A', c', (less_cell h0).2, (less_cell h1).2, (less_cell h2).2, h3.of_less⟩⟩

/-- A whole block of ints. -/
def Row (w : World) (b : Nat) (xs : List Int) : Prop := w.heap[b]? = some (.cells (nums xs).toArray 3 (0, 0))
theorem Row.lt {w : World} {b : Nat} {xs : List Int} (h : Row w b xs) : b < w.heap.size := (Array.getElem?_eq_some_iff.1 h).1
theorem Row.sl {w : World} {b : Nat} {xs : List Int} (h : Row w b xs) (hl : xs.length ≤ 9223372036854775807) : IntSl w (some ⟨b, 0, none⟩) xs.length xs := by
  refine ⟨Nat.le_refl _, hl, (fun e => by cases e), fun ad e j x hj => ?_⟩
  obtain rfl := Option.some.inj e
  rw [add_zero_off, cell_of_row w b j _ _ _ h]
  simp [nums, hj]
theorem Row.cell {w : World} {b : Nat} {xs : List Int} (h : Row w b xs) (j : Nat) (hj : j < xs.length) : w.cell? ⟨b, j, none⟩ = some (.int .i64 xs[j]) := by
  rw [cell_of_row w b j _ _ _ h]
  simp [nums, hj]
theorem Row.frozen {w : World} {b : Nat} {xs : List Int} (h : Row w b xs) (j : Nat) : w.frozen? ⟨b, j, none⟩ = false := frozen_of_row w b j _ _ h
theorem Row.set {w : World} {b : Nat} {xs : List Int} (h : Row w b xs) (j : Nat) (v : Int) : Row (w.setCell ⟨b, j, none⟩ (.int .i64 v)) b (xs.set j v) := by
  unfold Row
  rw [heap_setCell_same w b j _ _ _ h]
  simp [nums, List.map_set]
theorem Row.far {w : World} {b : Nat} {xs : List Int} (h : Row w b xs) {p : Addr} (hp : b ≠ p.block) (v : Value) : Row (w.setCell p v) b xs := by
  unfold Row
  rw [heap_setCell_other w p b v hp]
  exact h
theorem Row.below {w w' : World} {b : Nat} {xs : List Int} (h : Row w b xs) (hb : Below w.heap.size w w') : Row w' b xs := (hb.block b h.lt).trans h
theorem make_ints (m : Nat) (hm : m ≤ 1000000) (W : World) : (Instr.makeSlice 28 (.int .i64 (m : Int)) (.int .i64 (m : Int))).run Tryd.prog W = .ok (.slice (some ⟨W.heap.size, 0, none⟩) m m) (W.alloc (.cells (madeCells #[.int .i64 0] m) 3)) :=
  run_make_row' 28 3 (.int .i64 0) 8 Tryd.underlying28 info3 rfl .i64 .i64 m (by omega) (by omega) W
theorem made_nums (m : Nat) : madeCells #[.int .i64 0] m = (nums (List.replicate m 0)).toArray := by
  apply Array.ext
  · simp [size_madeCells, nums]
  · intro i h1 h2
    simp [madeCells, nums, Nat.mod_one]

/-- What is kept of a list of classes. -/
structure Cls (ts : List Ty) (lk : List Int) (k : Nat) : Prop where
  len : lk.length = ts.length
  all : ∀ j, j < k → ∀ x, lk[j]? = some x → 0 ≤ x ∧ x ≤ j ∧ (tyAt ts x).parts.length = (tyAt ts j).parts.length
theorem Cls.step {ts : List Ty} {lk : List Int} {k : Nat} (h : Cls ts lk k) (x : Int) (hk : k < ts.length) (h0 : 0 ≤ x) (h1 : x ≤ k) (h2 : (tyAt ts x).parts.length = (tyAt ts k).parts.length) : Cls ts (lk.set k x) (k + 1) := by
  refine ⟨by rw [List.length_set]; exact h.len, fun j hj y hy => ?_⟩
  have hl : k < lk.length := by rw [h.len]; exact hk
  by_cases e : j = k
  · subst e
    rw [List.getElem?_set_self hl] at hy
    obtain rfl := Option.some.inj hy
    exact ⟨h0, h1, h2⟩
  · rw [List.getElem?_set_ne (Ne.symm e)] at hy
    exact h.all j (by omega) y hy

structure CInv (g : Nat) (A : Option Addr) (c : Nat) (ts : List Ty) (W : World) (bt L : Nat) (wr : World) (lk : List Int) : Prop where
  box : wr.heap[bt]? = some (.cells #[.pointer (some ⟨g, 0, none⟩)] 32 (0, 0))
  row : Row wr L lk
  tab : wr.heap[g]? = some (.cells #[.slice A ts.length c, .slice (some ⟨L, 0, none⟩) lk.length lk.length] 100 (0, 0))
  but : But g W wr
  tys : TySl (less W g) A c ts
  neLg : L ≠ g
  neLb : L ≠ bt
  neb : bt ≠ g
  geL : W.heap.size ≤ L
  geb : W.heap.size ≤ bt
theorem CInv.ty {g : Nat} {A : Option Addr} {c : Nat} {ts : List Ty} {W : World} {bt L : Nat} {wr : World} {lk : List Int} (h : CInv g A c ts W bt L wr lk) : TySl wr A c ts := (h.tys.below h.but.less).of_less
theorem CInv.below {g : Nat} {A : Option Addr} {c : Nat} {ts : List Ty} {W : World} {bt L : Nat} {wr w' : World} {lk : List Int} (h : CInv g A c ts W bt L wr lk) (hb : Below wr.heap.size wr w') : CInv g A c ts W bt L w' lk :=
  ⟨(hb.block _ (Array.getElem?_eq_some_iff.1 h.box).1).trans h.box, h.row.below hb, (hb.block _ (Array.getElem?_eq_some_iff.1 h.tab).1).trans h.tab, h.but.below hb, h.tys, h.neLg, h.neLb, h.neb, h.geL, h.geb⟩
theorem CInv.set {g : Nat} {A : Option Addr} {c : Nat} {ts : List Ty} {W : World} {bt L : Nat} {wr : World} {lk : List Int} (h : CInv g A c ts W bt L wr lk) (j : Nat) (x : Int) : CInv g A c ts W bt L (wr.setCell ⟨L, j, none⟩ (.int .i64 x)) (lk.set j x) :=
  ⟨by rw [heap_setCell_other _ _ _ _ (Ne.symm h.neLb)]; exact h.box, h.row.set j x, by rw [heap_setCell_other _ _ _ _ (Ne.symm h.neLg), List.length_set]; exact h.tab, h.but.set (.inr h.geL), h.tys, h.neLg, h.neLb, h.neb, h.geL, h.geb⟩
theorem CInv.far {g : Nat} {A : Option Addr} {c : Nat} {ts : List Ty} {W : World} {bt L : Nat} {wr : World} {lk : List Int} (h : CInv g A c ts W bt L wr lk) {p : Addr} (h1 : bt ≠ p.block) (h2 : g ≠ p.block) (h3 : L ≠ p.block) (h4 : W.heap.size ≤ p.block) (v : Value) : CInv g A c ts W bt L (wr.setCell p v) lk :=
  ⟨by rw [heap_setCell_other _ _ _ _ h1]; exact h.box, h.row.far h3 v, by rw [heap_setCell_other _ _ _ _ h2]; exact h.tab, h.but.set (.inr h4), h.tys, h.neLg, h.neLb, h.neb, h.geL, h.geb⟩
theorem CInv.swap {g : Nat} {A : Option Addr} {c : Nat} {ts : List Ty} {W : World} {bt L : Nat} {wr : World} {lk : List Int} (h : CInv g A c ts W bt L wr lk) {Nx : Nat} {nx : List Int} (hr : Row wr Nx nx) (hNb : bt ≠ Nx) (hNg : g ≠ Nx) (hNW : W.heap.size ≤ Nx) (n : Nat) (hn : nx.length = n) :
    CInv g A c ts W bt Nx (wr.setCell ⟨g, 1, none⟩ (.slice (some ⟨Nx, 0, none⟩) n n)) nx := by
  subst hn
  refine ⟨by rw [heap_setCell_other _ _ _ _ h.neb]; exact h.box, hr.far (Ne.symm hNg) _, ?_, h.but.set (.inl rfl), h.tys, Ne.symm hNg, Ne.symm hNb, h.neb, hNW, h.geb⟩
  rw [heap_setCell_same wr g 1 _ _ _ h.tab]
  rfl
theorem TySl.from {w w' : World} {g : Nat} {A : Option Addr} {c : Nat} {xs : List Ty} (h : TySl (less w g) A c xs) (hb : But g w w') : TySl w' A c xs := (h.below hb.less).of_less
theorem sum_lt : ∀ (xs ys : List Int), xs.length = ys.length → (∀ (j : Nat) (x y : Int), xs[j]? = some x → ys[j]? = some y → x ≤ y) → xs ≠ ys → xs.sum < ys.sum
  | [], [], _, _, h => absurd rfl h
  | [], _ :: _, h, _, _ => by simp at h
  | _ :: _, [], h, _, _ => by simp at h
  | x :: xs, y :: ys, hl, hp, hn => by
    have hxy : x ≤ y := hp 0 x y rfl rfl
    have hl' : xs.length = ys.length := by simpa using hl
    by_cases e : xs = ys
    · subst e
      have : x ≠ y := fun e => hn (by rw [e])
      simp only [List.sum_cons]
      omega
    · have := sum_lt xs ys hl' (fun j a b ha hb => hp (j + 1) a b (by simpa using ha) (by simpa using hb)) e
      simp only [List.sum_cons]
      omega
theorem sum_le : ∀ (xs : List Int) (m : Int), (∀ x ∈ xs, x ≤ m) → xs.sum ≤ m * xs.length
  | [], m, _ => by simp
  | x :: xs, m, h => by
    have h1 := h x List.mem_cons_self
    have h2 := sum_le xs m (fun y hy => h y (List.mem_cons_of_mem _ hy))
    simp only [List.sum_cons, List.length_cons]
    have : m * ((xs.length + 1 : Nat) : Int) = m * xs.length + m := by rw [Int.natCast_add, Int.mul_add]; omega
    omega
def mu (lk : List Int) : Nat := (4000 - lk.sum).toNat
theorem Cls.sum_le {ts : List Ty} {lk : List Int} (h : Cls ts lk ts.length) (hs : ts.length ≤ 62) : lk.sum ≤ 3844 := by
  have h1 := K.sum_le lk 62 (fun x hx => by
    obtain ⟨j, hj⟩ := List.getElem?_of_mem hx
    have hjl := (List.getElem?_eq_some_iff.1 hj).1
    have := h.all j (by rw [← h.len]; exact hjl) x hj
    rw [h.len] at hjl
    omega)
  have : (lk.length : Int) ≤ 62 := by rw [h.len]; omega
  omega
/-- What has been told anew, up to i, is no less. -/
def LeU (lk nx : List Int) (i : Nat) : Prop := ∀ j, j < i → ∀ x y, lk[j]? = some x → nx[j]? = some y → x ≤ y
theorem mu_lt {ts : List Ty} {lk nx : List Int} (h1 : Cls ts lk ts.length) (h2 : Cls ts nx ts.length) (hl : LeU lk nx ts.length) (hn : nx ≠ lk) (hs : ts.length ≤ 62) : mu nx < mu lk := by
  have := sum_lt lk nx (by rw [h1.len, h2.len]) (fun j x y hx hy => hl j (by rw [← h1.len]; exact (List.getElem?_eq_some_iff.1 hx).1) x y hx hy) (Ne.symm hn)
  have h3 := h2.sum_le hs
  unfold mu
  omega
theorem step_self {ts : List Ty} {lk nx : List Int} {i : Nat} (h1 : Cls ts lk ts.length) (h : Cls ts nx i) (hl : LeU lk nx i) (hi : i < ts.length) : Cls ts (nx.set i i) (i + 1) ∧ LeU lk (nx.set i i) (i + 1) := by
  refine ⟨h.step i hi (by omega) (Int.le_refl _) rfl, fun j hj x y hx hy => ?_⟩
  by_cases e : j = i
  · subst e
    rw [List.getElem?_set_self (by rw [h.len]; exact hi)] at hy
    obtain rfl := Option.some.inj hy
    exact (h1.all j hi x hx).2.1
  · rw [List.getElem?_set_ne (Ne.symm e)] at hy
    exact hl j (by omega) x y hx hy
theorem step_other {ts : List Ty} {lk nx : List Int} {i k : Nat} (v : Int) (h1 : Cls ts lk ts.length) (h : Cls ts nx (i + 1)) (hl : LeU lk nx (i + 1)) (hi : i < ts.length) (hk : k < i) (hv : nx[k]? = some v) (u : Int) (hku : lk[k]? = some u) (hiu : lk[i]? = some u) :
    Cls ts (nx.set i v) (i + 1) ∧ LeU lk (nx.set i v) (i + 1) := by
  have a1 := h.all k (by omega) v hv
  have a2 := h1.all k (by omega) u hku
  have a3 := h1.all i hi u hiu
  have hx : LeU lk (nx.set i v) (i + 1) := fun j hj x y hx hy => by
    by_cases e : j = i
    · subst e
      rw [List.getElem?_set_self (by rw [h.len]; exact hi)] at hy
      obtain rfl := Option.some.inj hy
      rw [hiu] at hx
      obtain rfl := Option.some.inj hx
      exact hl k (by omega) _ _ hku hv
    · rw [List.getElem?_set_ne (Ne.symm e)] at hy
      exact hl j hj x y hx hy
  refine ⟨⟨by rw [List.length_set]; exact h.len, fun j hj x hx => ?_⟩, hx⟩
  by_cases e : j = i
  · subst e
    rw [List.getElem?_set_self (by rw [h.len]; exact hi)] at hx
    obtain rfl := Option.some.inj hx
    exact ⟨a1.1, by omega, by rw [a1.2.2, ← a2.2.2, a3.2.2]⟩
  · rw [List.getElem?_set_ne (Ne.symm e)] at hx
    exact h.all j hj x hx
theorem CInv.tabl {g : Nat} {A : Option Addr} {c : Nat} {ts : List Ty} {W : World} {bt L : Nat} {wr : World} {lk : List Int} (h : CInv g A c ts W bt L wr lk) (hc : lk.length = ts.length) (hparts : ∀ t ∈ ts, ∀ p ∈ t.parts, 0 ≤ p ∧ p < ts.length) (hofs : ∀ t ∈ ts, 0 ≤ t.of ∧ t.of < ts.length) (hs : ts.length ≤ 62) :
    TabL wr g A c ts (some ⟨L, 0, none⟩) lk.length lk := ⟨h.tab, h.ty, h.row.sl (by omega), hc, hparts, hofs, hs⟩
def ClassesPost (g : Nat) (A : Option Addr) (c n : Nat) (W : World) (e : Ending) (w' : World) : Prop :=
  e = .returned (.tuple #[]) ∧ But g W w' ∧ ∃ L n' lc, w'.heap[g]? = some (.cells #[.slice A n c, .slice L n' lc] 100 (0, 0))
set_option maxHeartbeats 1000000 in
theorem classes_calls (g : Nat) (A : Option Addr) (c : Nat) (ts : List Ty) (W : World) (hg : W.heap[g]? = some (.cells #[.slice A ts.length c, .slice none 0 0] 100 (0, 0))) (hT : TySl (less W g) A c ts)
    (hparts : ∀ t ∈ ts, ∀ p ∈ t.parts, 0 ≤ p ∧ p < ts.length) (hofs : ∀ t ∈ ts, 0 ≤ t.of ∧ t.of < ts.length) (hs : ts.length ≤ 62) :
    Calls Tryd.prog 70 #[.pointer (some ⟨g, 0, none⟩)] W (ClassesPost g A c ts.length W) := by
  have c0 : W.cell? ⟨g, 0, none⟩ = some (.slice A ts.length c) := cell_of_row W g 0 _ _ _ hg
  have c1 : W.cell? ⟨g, 1, none⟩ = some (.slice none 0 0) := cell_of_row W g 1 _ _ _ hg
  have f0 := frozen_of_row W g 1 _ _ hg
  have hgl : g < W.heap.size := (Array.getElem?_eq_some_iff.1 hg).1
  have hgl1 : g < W.heap.size + 1 := by omega
  have hgl2 : g < W.heap.size + 1 + 1 := by omega
  have HPA := Lib.hid hparts
  have HOF := Lib.hid hofs
  clear hparts hofs
  have hmk := make_ints ts.length (by omega)
  have HT := Lib.hid hT
  have HG := Lib.hid hg
  clear hT hg
  go_enter Tryd.func70, Tryd.ntmps70
  go_wp2
  have d0 : (W.alloc (.cells #[.pointer (some ⟨g, 0, none⟩)] 32)).cell? ⟨W.heap.size, 0, none⟩ = some (.pointer (some ⟨g, 0, none⟩)) := by simp [go_sem]
  have d1 : (W.alloc (.cells #[.pointer (some ⟨g, 0, none⟩)] 32)).cell? ⟨g, 0, none⟩ = some (.slice A ts.length c) := cell_below (below_alloc' (below_refl W)) c0
  have d2 : (W.alloc (.cells #[.pointer (some ⟨g, 0, none⟩)] 32)).cell? ⟨g, 1, none⟩ = some (.slice none 0 0) := cell_below (below_alloc' (below_refl W)) c1
  have d3 : (W.alloc (.cells #[.pointer (some ⟨g, 0, none⟩)] 32)).frozen? ⟨g, 1, none⟩ = false := by simp [go_sem, f0, hgl]
  have hfz : ∀ o, ((W.alloc (.cells #[.pointer (some ⟨g, 0, none⟩)] 32)).alloc o).drew.frozen? ⟨g, 1, none⟩ = false := fun o => ((below_drew' (below_alloc' (below_alloc' (below_refl W)))).frozen (p := ⟨g, 1, none⟩) hgl).trans f0
  have hcz : ∀ o, ((W.alloc (.cells #[.pointer (some ⟨g, 0, none⟩)] 32)).alloc o).drew.cell? ⟨g, 1, none⟩ = some (.slice none 0 0) := fun o => cell_below (below_drew' (below_alloc' (below_alloc' (below_refl W)))) c1
  go_region_held3 (fun w' => w'.cell? ⟨W.heap.size, 0, none⟩ = some (.pointer (some ⟨g, 0, none⟩)) ∧ w'.cell? ⟨g, 0, none⟩ = some (.slice A ts.length c))
    (first | (go_keep; done) | (go_split_ands; exact ⟨cell_below (below_drew' (below_alloc' (below_refl _))) (by assumption), cell_below (below_drew' (below_alloc' (below_refl _))) (by assumption)⟩) | ((try dsimp only); refine ⟨?_, ?_⟩ <;> simp [go_sem, c0, hgl, hgl1]))
    (first | (fail))
  have HI : Hid (CInv g A c ts W W.heap.size (W.heap.size + 1) (((W.setCell ⟨g, 1, none⟩ (.slice (some ⟨W.heap.size + 1, 0, none⟩) ts.length ts.length)).alloc (.cells #[.pointer (some ⟨g, 0, none⟩)] 32)).alloc (.cells (madeCells #[.int .i64 0] ts.length) 3)).drew (List.replicate ts.length 0)) := by
    have hsz : (W.setCell ⟨g, 1, none⟩ (.slice (some ⟨W.heap.size + 1, 0, none⟩) ts.length ts.length)).heap.size = W.heap.size := by simp [World.setCell]
    refine Lib.hid ⟨?_, ?_, ?_, ?_, HT.out, by omega, by omega, by omega, by omega, Nat.le_refl _⟩
    · have h := heap_alloc2_old (W.setCell ⟨g, 1, none⟩ (.slice (some ⟨W.heap.size + 1, 0, none⟩) ts.length ts.length)) (.cells #[.pointer (some ⟨g, 0, none⟩)] 32) (.cells (madeCells #[.int .i64 0] ts.length) 3)
      rwa [hsz] at h
    · have h := heap_alloc2_new (W.setCell ⟨g, 1, none⟩ (.slice (some ⟨W.heap.size + 1, 0, none⟩) ts.length ts.length)) (.cells #[.pointer (some ⟨g, 0, none⟩)] 32) (.cells (madeCells #[.int .i64 0] ts.length) 3)
      rw [hsz] at h
      unfold Row
      rw [← made_nums]
      exact h
    · rw [heap_drew, heap_alloc_old _ _ (by simp; omega), heap_alloc_old _ _ (by rw [hsz]; omega), heap_setCell_same W g 1 _ _ _ HG.out, List.length_replicate]
      rfl
    · exact (((But.refl g W).set (.inl rfl)).alloc.alloc).drew
  generalize (((W.setCell ⟨g, 1, none⟩ (.slice (some ⟨W.heap.size + 1, 0, none⟩) ts.length ts.length)).alloc (.cells #[.pointer (some ⟨g, 0, none⟩)] 32)).alloc (.cells (madeCells #[.int .i64 0] ts.length) 3)).drew = W1 at *
  have HC : Hid (Cls ts (List.replicate ts.length 0) 0) := Lib.hid ⟨by simp, fun j h => by omega⟩
  generalize hL : W.heap.size + 1 = L at *
  generalize hbt : W.heap.size = bt at *
  generalize List.replicate ts.length (0 : Int) = lk0 at *
  clear d0 d1 d2 d3 hmk c0 c1 f0 hgl hgl1 hgl2 hL hbt hfz hcz HT HG
  rename_i hheld
  have e1 : W1.cell? ⟨bt, 0, none⟩ = some (.pointer (some ⟨g, 0, none⟩)) := hheld.1
  have e2 : W1.cell? ⟨g, 0, none⟩ = some (.slice A ts.length c) := hheld.2
  clear hheld
  go_wp2
  clear e1 e2
  go_loopw [20] (fun t wr => ∃ (k : Nat) (lk : List Int), k ≤ ts.length ∧ t = .int .i64 k ∧ Hid (CInv g A c ts W bt L wr lk) ∧ Hid (Cls ts lk k)) (fun t _ => ts.length - (intOf t).toNat)
  case atStart => exact ⟨0, lk0, Nat.zero_le _, rfl, HI, HC⟩
  case round =>
    clear HI HC
    obtain ⟨k, lk, hk, rfl, HI, HC⟩ := hrel
    by_cases hlt : k < ts.length
    · have q := HI.out
      have hkl : k < lk.length := by rw [HC.out.len]; exact hlt
      have qb : wr.cell? ⟨bt, 0, none⟩ = some (.pointer (some ⟨g, 0, none⟩)) := cell_of_row wr bt 0 _ _ _ q.box
      have qg0 : wr.cell? ⟨g, 0, none⟩ = some (.slice A ts.length c) := cell_of_row wr g 0 _ _ _ q.tab
      have qg1 : wr.cell? ⟨g, 1, none⟩ = some (.slice (some ⟨L, 0, none⟩) lk.length lk.length) := cell_of_row wr g 1 _ _ _ q.tab
      have lb := World.block_lt_of_cell? wr _ qb
      have lg := World.block_lt_of_cell? wr _ qg0
      have n1 := q.neLg
      have lL := q.row.lt
      have n2 := q.neLb
      clear q
      have w0 : ∀ o, (wr.alloc o).cell? ⟨bt, 0, none⟩ = some (.pointer (some ⟨g, 0, none⟩)) := fun o => cell_below (below_alloc' (below_refl wr)) qb
      have w1 : ∀ o, (wr.alloc o).cell? ⟨g, 0, none⟩ = some (.slice A ts.length c) := fun o => cell_below (below_alloc' (below_refl wr)) qg0
      have w2 : ∀ o, (wr.alloc o).cell? ⟨g, 1, none⟩ = some (.slice (some ⟨L, 0, none⟩) lk.length lk.length) := fun o => cell_below (below_alloc' (below_refl wr)) qg1
      have w3 : (wr.alloc (.cells #[.int .i64 (k : Int)] 3)).cell? ⟨wr.heap.size, 0, none⟩ = some (.int .i64 (k : Int)) := by simp [go_sem]
      have HJ := Lib.hid (HI.out.below (below_alloc' (o := .cells #[.int .i64 (k : Int)] 3) (below_refl wr)))
      clear qb qg0 qg1 lb lg
      go_wp2
      have hB := HJ.out.but
      have v0 := w0 (.cells #[.int .i64 (k : Int)] 3)
      have v1 := w1 (.cells #[.int .i64 (k : Int)] 3)
      have v2 := w2 (.cells #[.int .i64 (k : Int)] 3)
      clear w0 w1 w2
      go_region_held3 (fun w' => w'.cell? ⟨bt, 0, none⟩ = some (.pointer (some ⟨g, 0, none⟩)) ∧ w'.cell? ⟨g, 0, none⟩ = some (.slice A ts.length c) ∧ w'.cell? ⟨g, 1, none⟩ = some (.slice (some ⟨L, 0, none⟩) lk.length lk.length) ∧ w'.cell? ⟨wr.heap.size, 0, none⟩ = some (.int .i64 (k : Int)) ∧ But g W w')
        (first
          | (go_split_ands; exact ⟨by assumption, by assumption, by assumption, by assumption, by assumption⟩)
          | (go_split_ands; exact ⟨by assumption, by assumption, by assumption, by assumption, But.drew (by assumption)⟩)
          | (go_split_ands; exact ⟨cell_below (by assumption) (by assumption), cell_below (by assumption) (by assumption), cell_below (by assumption) (by assumption), cell_below (by assumption) (by assumption), But.below (by assumption) (by assumption)⟩)
          | (go_split_ands; exact ⟨(World.cell?_setCell_far _ _ _ _ (by simp; omega)).trans (by assumption), (World.cell?_setCell_far _ _ _ _ (by simp; omega)).trans (by assumption), (World.cell?_setCell_far _ _ _ _ (by simp; omega)).trans (by assumption), (World.cell?_setCell_far _ _ _ _ (by simp; omega)).trans (by assumption), But.set (by assumption) (.inr HI.out.geL)⟩))
        (first | (go_at_call 108; go_split_ands; refine (indexf_calls g A c ts bt wr.heap.size k _ (by assumption) (HI.out.tys.from (by assumption)) hs (by assumption) (by assumption) (by omega) (by omega)).mono ?_; rintro e w4 ⟨⟨r, hr0, hr1, hr2, rfl⟩, hb⟩; have HR := Lib.hid (And.intro hr0 (And.intro hr1 hr2)); have HK := Lib.hid ((HJ.out.below (below_drew' (below_refl _))).below hb); have s1 := HK.out.row.cell k hkl; have s2 := HK.out.row.frozen k; clear hr0 hr1 hr2))
      go_wp2
      go_roundw
      case rel => exact ⟨k + 1, lk.set k r, by omega, by go_num, Lib.hid (HK.out.set k r), Lib.hid (HC.out.step r hlt HR.out.1 HR.out.2.1 (by have := HR.out.2.2; simp [klEq] at this; exact this.2))⟩
      case measure => simp [intOf]; omega
    · obtain rfl : k = ts.length := by omega
      clear hlt hk
      have q := HI.out
      have qb : wr.cell? ⟨bt, 0, none⟩ = some (.pointer (some ⟨g, 0, none⟩)) := cell_of_row wr bt 0 _ _ _ q.box
      have qg0 : wr.cell? ⟨g, 0, none⟩ = some (.slice A ts.length c) := cell_of_row wr g 0 _ _ _ q.tab
      clear q
      go_wp2
      clear qb qg0
      go_loopg [3] (mu lk) (fun q _ wr => ∃ (L : Nat) (lk : List Int), Hid (CInv g A c ts W bt L wr lk) ∧ Hid (Cls ts lk ts.length) ∧ Hid (q = mu lk))
      case atStart => exact ⟨L, lk, HI, HC, Lib.hid rfl⟩
      case round =>
        obtain ⟨wo, rfl⟩ : ∃ wo : World, wo = wr := ⟨_, rfl⟩
        clear HI HC
        obtain ⟨L, lk, HI, HC, HQ⟩ := hrel
        have q := HI.out
        have qb : wo.cell? ⟨bt, 0, none⟩ = some (.pointer (some ⟨g, 0, none⟩)) := cell_of_row wo bt 0 _ _ _ q.box
        have qg0 : wo.cell? ⟨g, 0, none⟩ = some (.slice A ts.length c) := cell_of_row wo g 0 _ _ _ q.tab
        have w0 : ∀ o, (wo.alloc o).cell? ⟨bt, 0, none⟩ = some (.pointer (some ⟨g, 0, none⟩)) := fun o => cell_below (below_alloc' (below_refl wo)) qb
        have w1 : ∀ o, (wo.alloc o).cell? ⟨g, 0, none⟩ = some (.slice A ts.length c) := fun o => cell_below (below_alloc' (below_refl wo)) qg0
        have hmk := make_ints ts.length (by omega)
        have lb := World.block_lt_of_cell? wo _ qb
        have lg := World.block_lt_of_cell? wo _ qg0
        have lL := q.row.lt
        have HJ := Lib.hid (q.below (below_alloc' (o := .cells (madeCells #[.int .i64 0] ts.length) 3) (below_refl wo)))
        have HR : Hid (Row (wo.alloc (.cells (madeCells #[.int .i64 0] ts.length) 3)) wo.heap.size (List.replicate ts.length 0)) := Lib.hid (by unfold Row; rw [← made_nums]; exact heap_alloc_new wo _)
        have HC0 : Hid (Cls ts (List.replicate ts.length 0) 0 ∧ LeU lk (List.replicate ts.length 0) 0) := Lib.hid ⟨⟨by simp, fun j h => by omega⟩, fun j h => by omega⟩
        clear q
        go_wp2
        clear qb qg0 w0 w1 hmk
        generalize wo.alloc (.cells (madeCells #[.int .i64 0] ts.length) 3) = w5 at *
        generalize hN : wo.heap.size = Nx at *
        have hNb : bt ≠ Nx := Nat.ne_of_lt lb
        have hNg : g ≠ Nx := Nat.ne_of_lt lg
        have hNL : L ≠ Nx := Nat.ne_of_lt lL
        have hNW : W.heap.size ≤ Nx := by have := HI.out.but.size; omega
        clear lb lg lL hN HI
        generalize List.replicate ts.length (0 : Int) = nx0 at *
        go_loopw [47] (fun t wr => ∃ (i : Nat) (nx : List Int), i ≤ ts.length ∧ t = .int .i64 i ∧ Hid (CInv g A c ts W bt L wr lk) ∧ Hid (Row wr Nx nx) ∧ Hid (Cls ts nx i ∧ LeU lk nx i)) (fun t _ => ts.length - (intOf t).toNat)
        case atStart => exact ⟨0, nx0, Nat.zero_le _, rfl, HJ, HR, HC0⟩
        case round =>
          obtain ⟨wp, rfl⟩ : ∃ wp : World, wp = wr := ⟨_, rfl⟩
          clear HJ HR HC0
          obtain ⟨i, nx, hi, rfl, HI, HR, HN⟩ := hrel
          by_cases hlt : i < ts.length
          · have hnl : i < nx.length := by rw [HN.out.1.len]; exact hlt
            have s1 := HR.out.cell i hnl
            have s2 := HR.out.frozen i
            have hnlI : (i : Int) < (ts.length : Int) := by omega
            go_wp2
            have HI6 := Lib.hid (HI.out.far (p := ⟨Nx, i, none⟩) hNb hNg hNL hNW (.int .i64 (i : Int)))
            have HR6 := Lib.hid (HR.out.set i i)
            have HN6 := Lib.hid (step_self HC.out HN.out.1 HN.out.2 hlt)
            clear s1 s2 HI HR HN
            generalize wp.setCell ⟨Nx, i, none⟩ (.int .i64 (i : Int)) = w6 at *
            have hnl2 : i < (nx.set i (i : Int)).length := by rw [List.length_set]; exact hnl
            clear hnl
            generalize nx.set i (i : Int) = nx2 at *
            go_loopw [55] (fun t wr => ∃ k : Nat, k ≤ i ∧ t = .int .i64 k ∧ Hid (CInv g A c ts W bt L wr lk) ∧ Hid (Row wr Nx nx2)) (fun t _ => i - (intOf t).toNat)
            case atStart => exact ⟨0, Nat.zero_le _, rfl, HI6, HR6⟩
            case round =>
              obtain ⟨wq, rfl⟩ : ∃ wq : World, wq = wr := ⟨_, rfl⟩
              clear HI6 HR6
              obtain ⟨k, hk, rfl, HI, HR⟩ := hrel
              by_cases hki : k < i
              · have q := HI.out
                have hkl : k < lk.length := by rw [HC.out.len]; omega
                have hil : i < lk.length := by rw [HC.out.len]; omega
                have qb : wq.cell? ⟨bt, 0, none⟩ = some (.pointer (some ⟨g, 0, none⟩)) := cell_of_row wq bt 0 _ _ _ q.box
                have qg1 : wq.cell? ⟨g, 1, none⟩ = some (.slice (some ⟨L, 0, none⟩) lk.length lk.length) := cell_of_row wq g 1 _ _ _ q.tab
                have qk := q.row.cell k hkl
                have qi := q.row.cell i hil
                have HK := Lib.hid (List.getElem?_eq_getElem hkl)
                have HL := Lib.hid (List.getElem?_eq_getElem hil)
                have hkI : (k : Int) < (lk.length : Int) := by omega
                have hiI : (i : Int) < (lk.length : Int) := by omega
                clear q
                generalize lk[k] = u at *
                generalize lk[i] = v at *
                by_cases huv : u = v
                · subst huv
                  have huu : (u == u) = true := beq_iff_eq.2 rfl
                  have hlen : (tyAt ts (i : Int)).parts.length = (tyAt ts (k : Int)).parts.length := by
                    have a1 := HC.out.all k (by omega) u HK.out
                    have a2 := HC.out.all i hlt u HL.out
                    rw [← a1.2.2, ← a2.2.2]
                  have HG := Lib.hid (fun n => goes_calls g A c ts _ _ lk (i : Int) (k : Int) (wq.drewN n) ((HI.out.below (below_drewN' (below_refl _))).tabl HC.out.len HPA.out HOF.out hs) (by omega) (by omega) (by omega) (by omega) hlen)
                  clear hlen
                  generalize goesB lk (tyAt ts (i : Int)) (tyAt ts (k : Int)) = R at *
                  go_wp2
                  go_quiet ((go_at_call 110; exact (HG.out _).mono fun _ _ h => ⟨h.1, by obtain ⟨m, hm⟩ := h.2; exact ⟨_, hm.trans (World.drewN_drewN _ _ _)⟩⟩))
                  have hk2 : k < nx2.length := by omega
                  have s0 := HR.out.cell k hk2
                  have s1 := HR.out.cell i hnl2
                  have s2 := HR.out.frozen i
                  have HV := Lib.hid (List.getElem?_eq_getElem hk2)
                  have hkn : (k : Int) < (ts.length : Int) := by omega
                  have hin : (i : Int) < (ts.length : Int) := by omega
                  generalize nx2[k] = v at *
                  cases R with
                  | true =>
                    go_wp2
                    go_roundw
                    case rel => exact ⟨i + 1, nx2.set i v, by omega, by go_num, Lib.hid ((HI.out.far (p := ⟨Nx, i, none⟩) hNb hNg hNL hNW (.int .i64 v)).below (below_drewN' (below_refl _))), Lib.hid ((HR.out.set i v).below (below_drewN' (below_refl _))), Lib.hid (step_other v HC.out HN6.out.1 HN6.out.2 hlt hki HV.out u HK.out HL.out)⟩
                    case measure => simp [intOf]; omega
                  | false =>
                    go_wp2
                    go_roundw
                    case rel => exact ⟨k + 1, by omega, by go_num, Lib.hid (HI.out.below (below_drewN' (below_refl _))), Lib.hid (HR.out.below (below_drewN' (below_refl _)))⟩
                    case measure => simp [intOf]; omega
                · have huu : (u == v) = false := beq_eq_false_iff_ne.2 huv
                  clear huv
                  go_wp2
                  go_quiet (fail)
                  go_wp2
                  go_roundw
                  case rel => exact ⟨k + 1, by omega, by go_num, Lib.hid (HI.out.below (below_drewN' (below_refl _))), Lib.hid (HR.out.below (below_drewN' (below_refl _)))⟩
                  case measure => simp [intOf]; omega
              · go_wp2
                go_roundw
                case rel => exact ⟨i + 1, nx2, by omega, by go_num, HI, HR, HN6⟩
                case measure => simp [intOf]; omega
          · obtain rfl : i = ts.length := by omega
            have q := HI.out
            have qb : wp.cell? ⟨bt, 0, none⟩ = some (.pointer (some ⟨g, 0, none⟩)) := cell_of_row wp bt 0 _ _ _ q.box
            have qg1 : wp.cell? ⟨g, 1, none⟩ = some (.slice (some ⟨L, 0, none⟩) lk.length lk.length) := cell_of_row wp g 1 _ _ _ q.tab
            have qf := frozen_of_row wp g 1 _ _ q.tab
            have hnn : nx.length = ts.length := HN.out.1.len
            have HEQ := Lib.hid (equal_calls (some ⟨Nx, 0, none⟩) nx.length nx (some ⟨L, 0, none⟩) lk.length lk wp (HR.out.sl (by omega)) (q.row.sl (by rw [HC.out.len]; omega)))
            rw [hnn] at HEQ
            clear q hnn
            by_cases hne : nx = lk
            · have hd : decide (nx = lk) = true := decide_eq_true hne
              rw [hd] at HEQ
              clear hd hne
              go_wp2_with fail
              refine HEQ.out.mono ?_
              rintro e w8 ⟨rfl, m, rfl⟩
              go_wp2
              exact bodyPost_ret (results_none rfl _ _ _) rfl ⟨rfl, HI.out.but.drewN, _, _, _, HI.out.tab⟩
            · have hd : decide (nx = lk) = false := decide_eq_false hne
              have HNE := Lib.hid hne
              rw [hd] at HEQ
              clear hd hne
              go_wp2_with fail
              refine HEQ.out.mono ?_
              rintro e w8 ⟨rfl, m, rfl⟩
              go_wp2
              go_roundg (mu nx)
              case measure =>
                rw [HQ.out]
                exact mu_lt HC.out HN.out.1 HN.out.2 HNE.out hs
              case rel => exact ⟨Nx, nx, Lib.hid ((HI.out.swap HR.out hNb hNg hNW ts.length HN.out.1.len).below (below_drewN' (below_refl _))), Lib.hid HN.out.1, Lib.hid rfl⟩
end Go.Proofs.YtdilmfnijkjiaaaDoor.K
