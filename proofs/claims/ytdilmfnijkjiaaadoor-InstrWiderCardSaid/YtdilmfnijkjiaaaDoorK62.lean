import Derived.Test.YtdilmfnijkjiaaaDoorK54
set_option maxRecDepth 100000
set_option linter.unusedSimpArgs false
set_option linter.unusedVariables false
namespace Go.Proofs.YtdilmfnijkjiaaaDoor.K
open Go.RowKit
theorem run_field97_0 (nm : ByteArray) (form kd tk lv : Int) (vr : Bool) (w : World) : (Instr.field 97 (.agg #[.string nm, .int .i64 form, .int .i64 kd, .int .i64 tk, .int .i64 lv, .bool vr]) 0).run Tryd.prog w = .ok (.string nm) w := by kernel_rfl
theorem run_field97_1 (nm : ByteArray) (form kd tk lv : Int) (vr : Bool) (w : World) : (Instr.field 97 (.agg #[.string nm, .int .i64 form, .int .i64 kd, .int .i64 tk, .int .i64 lv, .bool vr]) 1).run Tryd.prog w = .ok (.int .i64 form) w := by kernel_rfl
theorem run_field97_2 (nm : ByteArray) (form kd tk lv : Int) (vr : Bool) (w : World) : (Instr.field 97 (.agg #[.string nm, .int .i64 form, .int .i64 kd, .int .i64 tk, .int .i64 lv, .bool vr]) 2).run Tryd.prog w = .ok (.int .i64 kd) w := by kernel_rfl
theorem nameI_calls (op : Int) (w : World) : Calls Tryd.prog 44 #[.int .i64 op] w (NamePost w op) := by
  have HR := Lib.hid (of_row op w)
  unfold NamePost nameOf
  generalize rowOf op = r at *
  obtain ⟨nm, form, kd, tk, lv, vr⟩ := r
  go_enter Tryd.func44, Tryd.ntmps44
  go_wp2_with fail
  refine HR.out.mono ?_
  rintro e w1 ⟨rfl, hb⟩
  have HB := Lib.hid hb
  have hfd := run_field97_0 nm form kd tk lv vr
  clear hb HR 
  go_wp2_with fail
  go_ret
  exact ⟨rfl, HB.out⟩
theorem formI_calls (op : Int) (w : World) : Calls Tryd.prog 43 #[.int .i64 op] w (IntPost w (rowOf op).form) := by
  have HR := Lib.hid (of_row op w)
  unfold IntPost
  generalize rowOf op = r at *
  obtain ⟨nm, form, kd, tk, lv, vr⟩ := r
  go_enter Tryd.func43, Tryd.ntmps43
  go_wp2_with fail
  refine HR.out.mono ?_
  rintro e w1 ⟨rfl, hb⟩
  have HB := Lib.hid hb
  have hfd := run_field97_1 nm form kd tk lv vr
  clear hb HR 
  go_wp2_with fail
  go_ret
  exact ⟨rfl, HB.out⟩
theorem kindI_calls (op : Int) (w : World) : Calls Tryd.prog 51 #[.int .i64 op] w (IntPost w (rowOf op).kind) := by
  have HR := Lib.hid (of_row op w)
  unfold IntPost
  generalize rowOf op = r at *
  obtain ⟨nm, form, kd, tk, lv, vr⟩ := r
  go_enter Tryd.func51, Tryd.ntmps51
  go_wp2_with fail
  refine HR.out.mono ?_
  rintro e w1 ⟨rfl, hb⟩
  have HB := Lib.hid hb
  have hfd := run_field97_2 nm form kd tk lv vr
  clear hb HR 
  go_wp2_with fail
  go_ret
  exact ⟨rfl, HB.out⟩
def endsB (n : Int) : Bool := n == 18 || n == 21 || n == 37
def makesB (n : Int) : Bool := n == 22 || n == 25 || n == 29
def callsB (n : Int) : Bool := n == 20 || n == 30
theorem endsI_calls (n : Int) (w : World) : Calls Tryd.prog 47 #[.int .i64 n] w fun e w' => e = .returned (.bool (endsB n)) ∧ w = w' := by
  by_cases h0 : n = 18
  · subst h0
    go_enter Tryd.func47, Tryd.ntmps47
    go_wp2
    go_ret
    exact ⟨rfl, rfl⟩
  have e0 : (n == 18) = false := beq_eq_false_iff_ne.2 h0
  by_cases h1 : n = 21
  · subst h1
    go_enter Tryd.func47, Tryd.ntmps47
    go_wp2
    go_ret
    exact ⟨rfl, rfl⟩
  have e1 : (n == 21) = false := beq_eq_false_iff_ne.2 h1
  by_cases h2 : n = 37
  · subst h2
    go_enter Tryd.func47, Tryd.ntmps47
    go_wp2
    go_ret
    exact ⟨rfl, rfl⟩
  have e2 : (n == 37) = false := beq_eq_false_iff_ne.2 h2
  have e : endsB n = false := by unfold endsB; rw [e0, e1, e2]; rfl
  rw [e]
  clear e h0 h1 h2
  go_enter Tryd.func47, Tryd.ntmps47
  go_wp2
  go_ret
  exact ⟨rfl, rfl⟩
theorem makesI_calls (n : Int) (w : World) : Calls Tryd.prog 46 #[.int .i64 n] w fun e w' => e = .returned (.bool (makesB n)) ∧ w = w' := by
  by_cases h0 : n = 22
  · subst h0
    go_enter Tryd.func46, Tryd.ntmps46
    go_wp2
    go_ret
    exact ⟨rfl, rfl⟩
  have e0 : (n == 22) = false := beq_eq_false_iff_ne.2 h0
  by_cases h1 : n = 25
  · subst h1
    go_enter Tryd.func46, Tryd.ntmps46
    go_wp2
    go_ret
    exact ⟨rfl, rfl⟩
  have e1 : (n == 25) = false := beq_eq_false_iff_ne.2 h1
  by_cases h2 : n = 29
  · subst h2
    go_enter Tryd.func46, Tryd.ntmps46
    go_wp2
    go_ret
    exact ⟨rfl, rfl⟩
  have e2 : (n == 29) = false := beq_eq_false_iff_ne.2 h2
  have e : makesB n = false := by unfold makesB; rw [e0, e1, e2]; rfl
  rw [e]
  clear e h0 h1 h2
  go_enter Tryd.func46, Tryd.ntmps46
  go_wp2
  go_ret
  exact ⟨rfl, rfl⟩
theorem callsI_calls (n : Int) (w : World) : Calls Tryd.prog 48 #[.int .i64 n] w fun e w' => e = .returned (.bool (callsB n)) ∧ w = w' := by
  by_cases h0 : n = 20
  · subst h0
    go_enter Tryd.func48, Tryd.ntmps48
    go_wp2
    go_ret
    exact ⟨rfl, rfl⟩
  have e0 : (n == 20) = false := beq_eq_false_iff_ne.2 h0
  by_cases h1 : n = 30
  · subst h1
    go_enter Tryd.func48, Tryd.ntmps48
    go_wp2
    go_ret
    exact ⟨rfl, rfl⟩
  have e1 : (n == 30) = false := beq_eq_false_iff_ne.2 h1
  have e : callsB n = false := by unfold callsB; rw [e0, e1]; rfl
  rw [e]
  clear e h0 h1
  go_enter Tryd.func48, Tryd.ntmps48
  go_wp2
  go_ret
  exact ⟨rfl, rfl⟩
theorem ends4_calls (n : Int) (w : World) : Calls Tryd.prog 53 #[.int .i64 n] w fun e w' => e = .returned (.bool (endsB n)) ∧ w = w' := by
  by_cases h0 : n = 18
  · subst h0
    go_enter Tryd.func53, Tryd.ntmps53
    go_wp2
    go_ret
    exact ⟨rfl, rfl⟩
  have e0 : (n == 18) = false := beq_eq_false_iff_ne.2 h0
  by_cases h1 : n = 21
  · subst h1
    go_enter Tryd.func53, Tryd.ntmps53
    go_wp2
    go_ret
    exact ⟨rfl, rfl⟩
  have e1 : (n == 21) = false := beq_eq_false_iff_ne.2 h1
  by_cases h2 : n = 37
  · subst h2
    go_enter Tryd.func53, Tryd.ntmps53
    go_wp2
    go_ret
    exact ⟨rfl, rfl⟩
  have e2 : (n == 37) = false := beq_eq_false_iff_ne.2 h2
  have e : endsB n = false := by unfold endsB; rw [e0, e1, e2]; rfl
  rw [e]
  clear e h0 h1 h2
  go_enter Tryd.func53, Tryd.ntmps53
  go_wp2
  go_ret
  exact ⟨rfl, rfl⟩
theorem makes4_calls (n : Int) (w : World) : Calls Tryd.prog 54 #[.int .i64 n] w fun e w' => e = .returned (.bool (makesB n)) ∧ w = w' := by
  by_cases h0 : n = 22
  · subst h0
    go_enter Tryd.func54, Tryd.ntmps54
    go_wp2
    go_ret
    exact ⟨rfl, rfl⟩
  have e0 : (n == 22) = false := beq_eq_false_iff_ne.2 h0
  by_cases h1 : n = 25
  · subst h1
    go_enter Tryd.func54, Tryd.ntmps54
    go_wp2
    go_ret
    exact ⟨rfl, rfl⟩
  have e1 : (n == 25) = false := beq_eq_false_iff_ne.2 h1
  by_cases h2 : n = 29
  · subst h2
    go_enter Tryd.func54, Tryd.ntmps54
    go_wp2
    go_ret
    exact ⟨rfl, rfl⟩
  have e2 : (n == 29) = false := beq_eq_false_iff_ne.2 h2
  have e : makesB n = false := by unfold makesB; rw [e0, e1, e2]; rfl
  rw [e]
  clear e h0 h1 h2
  go_enter Tryd.func54, Tryd.ntmps54
  go_wp2
  go_ret
  exact ⟨rfl, rfl⟩
theorem calls4_calls (n : Int) (w : World) : Calls Tryd.prog 55 #[.int .i64 n] w fun e w' => e = .returned (.bool (callsB n)) ∧ w = w' := by
  by_cases h0 : n = 20
  · subst h0
    go_enter Tryd.func55, Tryd.ntmps55
    go_wp2
    go_ret
    exact ⟨rfl, rfl⟩
  have e0 : (n == 20) = false := beq_eq_false_iff_ne.2 h0
  by_cases h1 : n = 30
  · subst h1
    go_enter Tryd.func55, Tryd.ntmps55
    go_wp2
    go_ret
    exact ⟨rfl, rfl⟩
  have e1 : (n == 30) = false := beq_eq_false_iff_ne.2 h1
  have e : callsB n = false := by unfold callsB; rw [e0, e1]; rfl
  rw [e]
  clear e h0 h1
  go_enter Tryd.func55, Tryd.ntmps55
  go_wp2
  go_ret
  exact ⟨rfl, rfl⟩
theorem str_eq {x s : ByteArray} (h : x = s) : (x.toList == s.toList) = true := by subst h; exact beq_iff_eq.2 rfl
theorem str_ne {x s : ByteArray} (h : ¬ x = s) : (x.toList == s.toList) = false := by
  refine beq_eq_false_iff_ne.2 fun e => h ?_
  rw [ByteArray.toList_eq, ByteArray.toList_eq] at e
  exact Go.WideShapes.bytes_inj e
/-- Where a name stands first in a list, from k on; -1: nowhere. -/
def idxFrom (s : ByteArray) : List ByteArray → Nat → Int
  | [], _ => -1
  | x :: r, k => if x = s then (k : Int) else idxFrom s r (k + 1)
def nms : List ByteArray := rws.map (·.name)
def opOf (s : ByteArray) : Int := idxFrom s nms 0
theorem nms_len : nms.length = 38 := by kernel_rfl
theorem idx_hit {s x : ByteArray} {k : Nat} {v : Int} (hx : nms[k]? = some x) (h : idxFrom s (nms.drop k) k = v) (e : x = s) : v = k := by
  obtain ⟨hk, rfl⟩ := List.getElem?_eq_some_iff.1 hx
  rw [List.drop_eq_getElem_cons hk, idxFrom, if_pos e] at h
  exact h.symm
theorem idx_miss {s x : ByteArray} {k : Nat} {v : Int} (hx : nms[k]? = some x) (h : idxFrom s (nms.drop k) k = v) (e : ¬ x = s) : idxFrom s (nms.drop (k + 1)) (k + 1) = v := by
  obtain ⟨hk, rfl⟩ := List.getElem?_eq_some_iff.1 hx
  rw [List.drop_eq_getElem_cons hk, idxFrom, if_neg e] at h
  exact h
theorem idx_end {s : ByteArray} {v : Int} (h : idxFrom s (nms.drop 38) 38 = v) : v = -1 := by
  rw [List.drop_of_length_le (by rw [nms_len]; omega), idxFrom] at h
  exact h.symm
def OpPost (w : World) (s : ByteArray) (e : Ending) (w' : World) : Prop := e = .returned (.int .i64 (opOf s)) ∧ Below w.heap.size w w'
theorem nms_get (k : Nat) (hk : k < 38) : ∃ x, nms[k]? = some x ∧ nameCells[k]? = some (.string x) := by
  refine ⟨_, List.getElem?_eq_getElem (by rw [nms_len]; exact hk), ?_⟩
  have h : k < rws.length := hk
  unfold nameCells nms
  rw [List.getElem?_toArray, List.getElem?_map, List.getElem?_eq_getElem h, List.getElem_map]
  rfl
set_option maxHeartbeats 1000000 in
theorem op4_calls (s : ByteArray) (w : World) : Calls Tryd.prog 56 #[.string s] w (OpPost w s) := by
  have HN := Lib.hid (names_calls w)
  have hb := below_alloc' (o := .cells nameCells 9) (below_refl w)
  have hc : ∀ k x, nameCells[k]? = some (.string x) → (w.alloc (.cells nameCells 9)).cell? ⟨w.heap.size, k, none⟩ = some (.string x) := fun k x h => by
    rw [cell_of_row _ _ _ _ _ _ (heap_alloc_new w _)]; exact h
  have HC := Lib.hid hc
  have HB := Lib.hid hb
  clear hb hc
  obtain ⟨v, hv⟩ : ∃ v, opOf s = v := ⟨_, rfl⟩
  unfold OpPost
  rw [hv]
  unfold opOf at hv
  have HV := Lib.hid hv
  clear hv
  go_enter Tryd.func56, Tryd.ntmps56
  go_wp2_with fail
  refine HN.out.mono ?_
  rintro e w1 ⟨rfl, rfl⟩
  clear HN
  generalize w.alloc (.cells nameCells 9) = w1 at *
  go_wp2_with fail
  go_loopw [4] (fun t wr => ∃ k : Nat, k ≤ 38 ∧ t = .int .i64 k ∧ Hid (idxFrom s (nms.drop k) k = v) ∧ Hid (Below w1.heap.size w1 wr)) (fun t _ => 38 - (intOf t).toNat)
  case atStart => exact ⟨0, Nat.zero_le _, rfl, HV, Lib.hid (below_refl w1)⟩
  case round =>
    obtain ⟨k, hk, rfl, HI, HBK⟩ := hrel
    by_cases hlt : k < 38
    · obtain ⟨x, hx, hnx⟩ := nms_get k hlt
      have hcx : wr.cell? ⟨w.heap.size, k, none⟩ = some (.string x) := cell_below HBK.out (HC.out k x hnx)
      have HX := Lib.hid hx
      have hki : (k : Int) < 38 := by omega
      clear hx hnx
      by_cases hxs : x = s
      · have hv := idx_hit HX.out HI.out hxs
        have hxx := str_eq hxs
        have HVK := Lib.hid hv
        have HBZ := Lib.hid (below_then HB.out HBK.out)
        clear hxs hv
        go_wp2_with fail
        go_ret
        exact ⟨by rw [HVK.out]; rfl, HBZ.out⟩
      · have HJ := Lib.hid (idx_miss HX.out HI.out hxs)
        have hxx := str_ne hxs
        clear hxs
        go_wp2_with fail
        go_roundw
        case rel => exact ⟨k + 1, by omega, by go_num, HJ, HBK⟩
        case measure => simp [intOf]; omega
    · obtain rfl : k = 38 := by omega
      have HE := Lib.hid (idx_end HI.out)
      have HBZ := Lib.hid (below_then HB.out HBK.out)
      clear hlt hk
      go_wp2_with fail
      go_ret
      exact ⟨by rw [HE.out]; rfl, HBZ.out⟩
/-- A row's six cells. -/
def RowAt (w : World) (ad : Addr) (k : Nat) (r : Rw) : Prop :=
  w.cell? (ad.add (k * 6)) = some (.string r.name) ∧ w.cell? (ad.add (k * 6 + 1)) = some (.int .i64 r.form) ∧ w.cell? (ad.add (k * 6 + 2)) = some (.int .i64 r.kind) ∧
    w.cell? (ad.add (k * 6 + 3)) = some (.int .i64 r.takes) ∧ w.cell? (ad.add (k * 6 + 4)) = some (.int .i64 r.leaves) ∧ w.cell? (ad.add (k * 6 + 5)) = some (.bool r.varies)
theorem RowAt.below {w w1 : World} {ad : Addr} {k : Nat} {r : Rw} (h : RowAt w ad k r) (hb : Below w.heap.size w w1) : RowAt w1 ad k r :=
  ⟨cell_below hb h.1, cell_below hb h.2.1, cell_below hb h.2.2.1, cell_below hb h.2.2.2.1, cell_below hb h.2.2.2.2.1, cell_below hb h.2.2.2.2.2⟩
set_option maxHeartbeats 1000000 in
theorem opclos_calls (nm s : ByteArray) (form kd tk lv : Int) (vr : Bool) (bn : Nat) (w : World) (hn : w.cell? ⟨bn, 0, none⟩ = some (.string s)) :
    Calls Tryd.prog 92 #[.agg #[.string nm, .int .i64 form, .int .i64 kd, .int .i64 tk, .int .i64 lv, .bool vr], .pointer (some ⟨bn, 0, none⟩)] w fun e w' => e = .returned (.bool (nm.toList == s.toList)) ∧ Below w.heap.size w w' := by
  have b0 := Lib.hid (below_refl w)
  have f1 := fun o => cell_below (below_alloc' (o := o) b0.out) hn
  clear hn
  go_enter Tryd.func92, Tryd.ntmps92
  go_wp2
  go_ret
  exact ⟨rfl, below_alloc' b0.out⟩
set_option maxHeartbeats 1000000 in
theorem opindex_calls (s : ByteArray) (bn : Nat) (ad : Addr) (w : World) (hn : w.cell? ⟨bn, 0, none⟩ = some (.string s)) (hr : ∀ k r, rws[k]? = some r → RowAt w ad k r) :
    Calls Tryd.prog 90 #[.slice (some ad) 38 38, .func (.func 92) #[] #[.pointer (some ⟨bn, 0, none⟩)]] w (OpPost w s) := by
  have HC := Lib.hid (fun (nm : ByteArray) (form kd tk lv : Int) (vr : Bool) (w' : World) (hb : Below w.heap.size w w') => opclos_calls nm s form kd tk lv vr bn w' (cell_below hb hn))
  have HR := Lib.hid hr
  clear hn hr
  obtain ⟨v, hv⟩ : ∃ v, opOf s = v := ⟨_, rfl⟩
  unfold OpPost
  rw [hv]
  unfold opOf at hv
  have HV := Lib.hid hv
  clear hv
  go_enter Tryd.func90, Tryd.ntmps90
  go_wp2
  go_loopw [8] (fun t wr => ∃ k : Nat, k ≤ 38 ∧ t = .int .i64 k ∧ Hid (idxFrom s (nms.drop k) k = v) ∧ Hid (Below w.heap.size w wr)) (fun t _ => 38 - (intOf t).toNat)
  case atStart => exact ⟨0, Nat.zero_le _, rfl, HV, Lib.hid (below_refl w)⟩
  case round =>
    obtain ⟨k, hk, rfl, HI, HBK⟩ := hrel
    by_cases hlt : k < 38
    · have hlr : k < rws.length := hlt
      have hx : nms[k]? = some (rws[k]).name := by unfold nms; rw [List.getElem?_map, List.getElem?_eq_getElem hlr]; rfl
      have hra := (HR.out k _ (List.getElem?_eq_getElem hlr)).below HBK.out
      generalize rws[k] = r at *
      obtain ⟨nm, form, kd, tk, lv, vr⟩ := r
      dsimp only at hx
      obtain ⟨c0, c1, c2, c3, c4, c5⟩ := hra
      dsimp only at c0 c1 c2 c3 c4 c5
      rw [add_field _ _ _ (by omega)] at c1 c2 c3 c4 c5
      have HX := Lib.hid hx
      have hki : (k : Int) < 38 := by omega
      have HD := Lib.hid (HC.out nm form kd tk lv vr wr HBK.out)
      clear hx hlr HC
      go_wp2_with fail
      refine HD.out.mono ?_
      rintro e w1 ⟨rfl, hb⟩
      have HB1 := Lib.hid (below_then HBK.out hb)
      clear hb
      by_cases hxs : nm = s
      · have hv := idx_hit HX.out HI.out hxs
        have hxx := str_eq hxs
        have HVK := Lib.hid hv
        clear hxs hv
        go_wp2_with fail
        go_ret
        exact ⟨by rw [HVK.out]; rfl, HB1.out⟩
      · have HJ := Lib.hid (idx_miss HX.out HI.out hxs)
        have hxx := str_ne hxs
        clear hxs
        go_wp2_with fail
        go_roundw
        case rel => exact ⟨k + 1, by omega, by go_num, HJ, HB1⟩
        case measure => simp [intOf]; omega
    · obtain rfl : k = 38 := by omega
      have HE := Lib.hid (idx_end HI.out)
      clear hlt hk
      go_wp2_with fail
      go_ret
      exact ⟨by rw [HE.out]; rfl, HBK.out⟩
end Go.Proofs.YtdilmfnijkjiaaaDoor.K
