import Derived.Test.YtdilmfnijkjiaaaDoorK2
import Derived.Deep.WholeRow
set_option maxRecDepth 100000
namespace Go.Proofs.YtdilmfnijkjiaaaDoor.K
open Go.RowKit

/-- Operations of a list, one behind the other, as the model runs them; none where one of them does not yield a value. -/
def runOps (P : Program) : List Oper → Act → World → Option (Act × World)
  | [], a, w => some (a, w)
  | o :: rest, a, w => if o.guard.isNone then
      match (execOp a.eval o).run P w with
      | .ok (.value v) w' => runOps P rest (a.put o.dst v) w'
      | _ => none
    else none
theorem wpList_run {P : Program} {ops : Array Oper} {Q : Exit → Act → World → Prop} (rest : List Oper) : ∀ (l : List Oper) (a : Act) (w : World) (a' : Act) (w' : World), runOps P l a w = some (a', w') → wpList P ops Q rest a' w' → wpList P ops Q (l ++ rest) a w
  | [], a, w, a', w', h, k => by
    simp only [runOps, Option.some.injEq, Prod.mk.injEq] at h
    obtain ⟨rfl, rfl⟩ := h
    exact k
  | o :: l, a, w, a', w', h, k => by
    unfold runOps at h
    split at h
    · rename_i hg
      have hg' : o.guard = none := by simpa using hg
      split at h
      · rename_i v w1 hr
        refine wpList_plain hg' fun K hK => ?_
        unfold Oper.wp
        rw [hr]
        exact hK _ _ (wpList_run rest l _ w1 a' w' h k)
      · cases h
    · cases h

/-- A row of the table of instructions. -/
structure Rw where
  name : ByteArray
  form : Int
  kind : Int
  takes : Int
  leaves : Int
  varies : Bool
def Rw.cells (r : Rw) : List Value := [.string r.name, .int .i64 r.form, .int .i64 r.kind, .int .i64 r.takes, .int .i64 r.leaves, .bool r.varies]
def rws : List Rw := [
  ⟨⟨#[110, 111, 112]⟩, 0, -1, 0, 0, false⟩,
  ⟨⟨#[105, 110, 116]⟩, 1, -1, 0, 1, false⟩,
  ⟨⟨#[98, 111, 111, 108]⟩, 2, -1, 0, 1, false⟩,
  ⟨⟨#[103, 101, 116]⟩, 3, -1, 0, 1, false⟩,
  ⟨⟨#[115, 101, 116]⟩, 3, -1, 1, 0, false⟩,
  ⟨⟨#[100, 114, 111, 112]⟩, 0, -1, 1, 0, false⟩,
  ⟨⟨#[100, 117, 112]⟩, 0, -1, 1, 2, false⟩,
  ⟨⟨#[115, 119, 97, 112]⟩, 0, -1, 2, 2, false⟩,
  ⟨⟨#[97, 100, 100]⟩, 0, -1, 2, 1, false⟩,
  ⟨⟨#[115, 117, 98]⟩, 0, -1, 2, 1, false⟩,
  ⟨⟨#[109, 117, 108]⟩, 0, -1, 2, 1, false⟩,
  ⟨⟨#[100, 105, 118]⟩, 0, -1, 2, 1, false⟩,
  ⟨⟨#[114, 101, 109]⟩, 0, -1, 2, 1, false⟩,
  ⟨⟨#[108, 101, 115, 115]⟩, 0, -1, 2, 1, false⟩,
  ⟨⟨#[115, 97, 109, 101]⟩, 0, -1, 2, 1, false⟩,
  ⟨⟨#[110, 111, 116]⟩, 0, -1, 1, 1, false⟩,
  ⟨⟨#[97, 110, 100]⟩, 0, -1, 2, 1, false⟩,
  ⟨⟨#[111, 114]⟩, 0, -1, 2, 1, false⟩,
  ⟨⟨#[106, 117, 109, 112]⟩, 4, -1, 0, 0, false⟩,
  ⟨⟨#[117, 110, 108, 101, 115, 115]⟩, 4, -1, 1, 0, false⟩,
  ⟨⟨#[99, 97, 108, 108]⟩, 5, -1, 0, 1, true⟩,
  ⟨⟨#[114, 101, 116]⟩, 0, -1, 1, 0, false⟩,
  ⟨⟨#[114, 101, 99, 111, 114, 100]⟩, 6, 2, 0, 1, true⟩,
  ⟨⟨#[102, 105, 101, 108, 100]⟩, 7, 2, 1, 1, false⟩,
  ⟨⟨#[115, 116, 111, 114, 101]⟩, 7, 2, 2, 0, false⟩,
  ⟨⟨#[97, 114, 114, 97, 121]⟩, 6, 3, 2, 1, false⟩,
  ⟨⟨#[108, 111, 97, 100]⟩, 6, 3, 2, 1, false⟩,
  ⟨⟨#[112, 117, 116]⟩, 6, 3, 3, 0, false⟩,
  ⟨⟨#[115, 105, 122, 101]⟩, 6, 3, 1, 1, false⟩,
  ⟨⟨#[99, 108, 111, 115, 117, 114, 101]⟩, 8, 4, 0, 1, true⟩,
  ⟨⟨#[97, 112, 112, 108, 121]⟩, 6, 4, 0, 1, true⟩,
  ⟨⟨#[110, 111, 110, 101]⟩, 6, 5, 0, 1, false⟩,
  ⟨⟨#[115, 111, 109, 101]⟩, 6, 5, 1, 1, false⟩,
  ⟨⟨#[105, 115, 110, 111, 110, 101]⟩, 6, 5, 1, 1, false⟩,
  ⟨⟨#[102, 111, 114, 99, 101]⟩, 6, 5, 1, 1, false⟩,
  ⟨⟨#[112, 114, 105, 110, 116]⟩, 0, -1, 1, 0, false⟩,
  ⟨⟨#[114, 101, 97, 100]⟩, 0, -1, 0, 1, false⟩,
  ⟨⟨#[102, 97, 105, 108]⟩, 9, -1, 0, 0, false⟩]
def tableCells : Array Value := (rws.flatMap Rw.cells).toArray
theorem size_table : tableCells.size = 228 := by kernel_rfl

theorem info128 : (Tryd.prog.info? 128).map (·.size) = some 228 := by kernel_rfl
theorem wpList_take {P : Program} {ops : Array Oper} {Q : Exit → Act → World → Prop} (n : Nat) (l : List Oper) (a : Act) (w : World) (a' : Act) (w' : World) (h : runOps P (l.take n) a w = some (a', w')) (k : wpList P ops Q (l.drop n) a' w') : wpList P ops Q l a w := by
  have := wpList_run (l.drop n) (l.take n) a w a' w' h k
  rwa [List.take_append_drop] at this

/-- A store of a whole value into the block that was made last. -/
theorem wpList_store_new {P : Program} {ops : Array Oper} {rest : List Oper} {o : Oper} {a : Act} {Q : Exit → Act → World → Prop} (w : World) (hg : o.guard = none) (t : TypeId) (p x : Operand) (ho : o.op = .store t p x) (c c' : Array Value)
    (hp : a.eval p = .pointer (some ⟨w.heap.size, 0, none⟩)) (hx : a.eval x = .agg c') (hi : (P.info? t).map (·.size) = some c'.size) (hc : c.size = c'.size) (h1 : c'.all (·.oneCell') = true)
    (k : wpList P ops Q rest (a.put o.dst undef) (w.alloc (.cells c' t))) : wpList P ops Q (o :: rest) a (w.alloc (.cells c t)) :=
  wpList_plain hg fun K hK => by
    unfold Oper.wp execOp
    simp only [ho, hp, hx, Sem.run_bind, run_storeAt_new w t c c' hi hc h1, Result.andThen_ok, Sem.run_pure]
    exact hK _ _ k

noncomputable def tableZero : Array Value := ((Tryd.prog.info? 128).bind (·.zero)).elim #[] Value.cells
theorem size_zero : tableZero.size = 228 := by kernel_rfl
def tmps1 (g : Nat) : Array Value := #[.pointer (some ⟨g, 0, none⟩)] ++ (rws.map fun r => Value.agg r.cells.toArray).toArray ++ #[.agg tableCells]
set_option maxHeartbeats 400000 in
theorem table_calls (w : World) : Calls Tryd.prog 106 #[] w fun e w' => e = .returned (.agg tableCells) ∧ Below w.heap.size w w' := by
  refine calls_of_wp Tryd.func106 rfl (wp_seq (wp_region_list ?_))
  refine wpList_take 1 _ _ w ⟨#[.pointer (some ⟨w.heap.size, 0, none⟩)] ++ Array.replicate 39 undef, []⟩ (w.alloc (.cells tableZero 128)) (by kernel_rfl) ?_
  refine wpList_nil ?_
  refine wp_seq (wp_region_list ?_)
  refine wpList_take 39 _ _ _ ⟨tmps1 w.heap.size, []⟩ (w.alloc (.cells tableZero 128)) (by kernel_rfl) ?_
  simp only [List.drop_succ_cons, List.drop_zero]
  refine wpList_store_new w rfl 128 (.tmp 0) (.tmp 39) rfl tableZero tableCells (by kernel_rfl) (by kernel_rfl) (by rw [size_table]; exact info128) (by rw [size_zero, size_table]) (by kernel_rfl) ?_
  refine wpList_nil (wp_ret ?_)
  refine bodyPost_ret (results_cell_row rfl _ _ w.heap.size 128 tableCells (0, 0) _ (by kernel_rfl) (heap_alloc_last w _) Tryd.underlying128 rfl (by rw [size_table]; exact info128)) rfl ⟨rfl, (below_refl w).alloc (Nat.le_refl _) _⟩
/-- The row of an instruction; of none one without a name. -/
def rowOf (op : Int) : Rw := if 0 ≤ op ∧ op < 38 then rws.getD op.toNat ⟨⟨#[]⟩, -1, -1, 0, 0, false⟩ else ⟨⟨#[]⟩, -1, -1, 0, 0, false⟩
end Go.Proofs.YtdilmfnijkjiaaaDoor.K
