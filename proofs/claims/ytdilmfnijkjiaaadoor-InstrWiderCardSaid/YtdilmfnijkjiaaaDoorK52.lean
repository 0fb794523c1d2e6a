import Derived.Test.YtdilmfnijkjiaaaDoorK8
set_option maxRecDepth 100000
set_option linter.unusedSimpArgs false
set_option linter.unusedVariables false
namespace Go.Proofs.YtdilmfnijkjiaaaDoor.K
open Go.RowKit
def nameCells : Array Value := (rws.map fun r => Value.string r.name).toArray
set_option maxHeartbeats 2000000 in
theorem names_calls (w : World) : Calls Tryd.prog 93 #[] w fun e w' => e = .returned (.slice (some ⟨w.heap.size, 0, none⟩) 38 38) ∧ w' = w.alloc (.cells nameCells 9) := by
  go_enter Tryd.func93, Tryd.ntmps93
  go_wp2
  go_ret
  exact ⟨rfl, rfl⟩
def nameOf (op : Int) : ByteArray := (rowOf op).name
theorem nameCells_get : ∀ m : Fin 38, nameCells[(m : Nat)]? = some (Value.string (rws.getD m ⟨⟨#[]⟩, -1, -1, 0, 0, false⟩).name) := by
  intro m
  have h : (m : Nat) < rws.length := m.2
  unfold nameCells
  rw [List.getElem?_toArray, List.getElem?_map, List.getElem?_eq_getElem h, List.getD_eq_getElem?_getD, List.getElem?_eq_getElem h]
  rfl
def NamePost (w : World) (op : Int) (e : Ending) (w' : World) : Prop := e = .returned (.string (nameOf op)) ∧ Below w.heap.size w w'
set_option maxHeartbeats 2000000 in
theorem name4_calls (op : Int) (w : World) : Calls Tryd.prog 49 #[.int .i64 op] w (NamePost w op) := by
  have HN := Lib.hid (names_calls w)
  by_cases hin : 0 ≤ op ∧ op < 38
  · obtain ⟨m, rfl⟩ : ∃ m : Nat, op = (m : Int) := ⟨op.toNat, by omega⟩
    have hm : m < 38 := by omega
    have hc : (w.alloc (.cells nameCells 9)).cell? ⟨w.heap.size, m, none⟩ = some (.string (nameOf (m : Int))) := by
      rw [cell_of_row _ _ _ _ _ _ (heap_alloc_new w _)]
      have := nameCells_get ⟨m, hm⟩
      simp only at this
      rw [this]
      unfold nameOf rowOf
      rw [if_pos hin, Int.toNat_natCast]
    have hb := below_alloc' (o := .cells nameCells 9) (below_refl w)
    have HB := Lib.hid hb
    have hmi : (m : Int) < 38 := by omega
    clear hin hb
    obtain ⟨nm, hnm⟩ : ∃ nm, nameOf (m : Int) = nm := ⟨_, rfl⟩
    rw [hnm] at hc
    have HNM := Lib.hid hnm
    clear hnm
    go_enter Tryd.func49, Tryd.ntmps49
    go_wp2_with fail
    refine HN.out.mono ?_
    rintro e w1 ⟨rfl, rfl⟩
    clear HN
    generalize w.alloc (.cells nameCells 9) = w1 at *
    go_wp2_with fail
    go_ret
    exact ⟨by rw [HNM.out]; rfl, HB.out⟩
  · have e : nameOf op = ⟨#[]⟩ := by unfold nameOf rowOf; rw [if_neg hin]
    have hb := below_alloc' (o := .cells nameCells 9) (below_refl w)
    have HB := Lib.hid hb
    have HE := Lib.hid e
    clear e hb
    by_cases h0 : op < 0
    · clear hin
      go_enter Tryd.func49, Tryd.ntmps49
      go_wp2_with fail
      refine HN.out.mono ?_
      rintro e w1 ⟨rfl, rfl⟩
      go_wp2_with fail
      go_ret
      exact ⟨by rw [HE.out]; rfl, HB.out⟩
    · have h1 : ¬ op < 38 := by omega
      have h2 : (38 : Int) ≤ op := by omega
      clear hin
      go_enter Tryd.func49, Tryd.ntmps49
      go_wp2_with fail
      refine HN.out.mono ?_
      rintro e w1 ⟨rfl, rfl⟩
      go_wp2_with fail
      go_ret
      exact ⟨by rw [HE.out]; rfl, HB.out⟩
end Go.Proofs.YtdilmfnijkjiaaaDoor.K
