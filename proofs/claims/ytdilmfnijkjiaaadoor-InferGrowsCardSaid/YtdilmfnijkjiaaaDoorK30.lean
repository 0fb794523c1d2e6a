import Derived.Test.YtdilmfnijkjiaaaDoorK29
import Derived.Lib.AppendZeros
set_option maxRecDepth 100000
set_option linter.unusedSimpArgs false
set_option linter.unusedVariables false
namespace Go.Proofs.YtdilmfnijkjiaaaDoor.K
open Go.RowKit
set_option maxHeartbeats 1000000 in
theorem grow_calls (n : Nat) (h0 : 0 < n) (hn : n ≤ 1000000) (w : World) :
    Calls Tryd.prog 114 #[.slice none 0 0, .int .i64 (n : Int)] w fun e w' => ∃ v, e = .returned v ∧ OwnStrs w' w.heap.size v [] ∧ Below w.heap.size w w' := by
  obtain ⟨i, hi, hz, hsz, hby⟩ := info_parts info9
  have hi' := hi
  have hA := Lib.run_append_nil_zeros (P := Tryd.prog) w 66 3 66 9 i (.string ⟨#[]⟩) .i64 .i64 Tryd.underlying66 Tryd.underlying3 hi hz n h0 (by rw [hsz]; omega) (by omega) (by rw [hby]; omega)
  have hpos : (0 : Int) < (n : Int) := by omega
  have hgc : n ≤ grownCap w n 0 9 := grownCap_ge w n 0 9
  have hgm : grownCap w n 0 9 ≤ maxLen := grownCap_le_maxLen w n 0 9 (by simp only [maxLen]; omega)
  have hcz : (Builtin.zeroCells (Value.string { data := #[] }).cells n ++ Builtin.zeroCells (Value.string { data := #[] }).cells (grownCap w n 0 9 - n)).size = grownCap w n 0 9 * 1 := by
    simp [Builtin.zeroCells, Value.cells]; omega
  generalize grownCap w n 0 9 = gc at *
  generalize hcs : Builtin.zeroCells (Value.string { data := #[] }).cells n ++ Builtin.zeroCells (Value.string { data := #[] }).cells (gc - n) = cs at *
  clear hi hi' hz hsz hby
  go_enter Tryd.func114, Tryd.ntmps114
  go_wp2_with (at_builtin; refine Lib.wpList_append_run _ rfl _ _ 66 3 rfl _ _ rfl rfl _ _ hA ?_)
  go_ret
  exact ⟨_, rfl, (World.ownsRow_made w cs gc (Nat.le_refl _) hgm hcz : World.ownsRow _ _ _ _ _ _ _).drew, below_drew' (below_alloc' (below_refl w))⟩
/-- A row of slices of strings at block bk. -/
def SlRow (w : World) (bk : Nat) (L : List (Option Addr × Nat × List ByteArray)) : Prop := ∀ j t, L[j]? = some t → w.cell? ⟨bk, j, none⟩ = some (.slice t.1 t.2.2.length t.2.1) ∧ StrSl w t.1 t.2.1 t.2.2
theorem SlRow.below {w w1 : World} {bk : Nat} {L : List (Option Addr × Nat × List ByteArray)} (h : SlRow w bk L) (hb : Below w.heap.size w w1) : SlRow w1 bk L :=
  fun j t hj => ⟨cell_below hb (h j t hj).1, (h j t hj).2.below hb⟩
def flat (L : List (Option Addr × Nat × List ByteArray)) (k : Nat) : List ByteArray := (L.take k).flatMap (·.2.2)
theorem flat_succ {L : List (Option Addr × Nat × List ByteArray)} {k : Nat} {t : Option Addr × Nat × List ByteArray} (h : L[k]? = some t) : flat L k ++ t.2.2 = flat L (k + 1) := by
  unfold flat
  rw [List.take_add_one, h]
  simp
theorem flat_le (L : List (Option Addr × Nat × List ByteArray)) (k : Nat) : (flat L k).length ≤ (flat L L.length).length := by
  unfold flat
  rw [List.take_length]
  conv => rhs; rw [← List.take_append_drop k L, List.flatMap_append, List.length_append]
  omega
set_option maxHeartbeats 1000000 in
theorem concat_calls (bk : Nat) (L : List (Option Addr × Nat × List ByteArray)) (c : Nat) (w : World) (h : SlRow w bk L) (hbk : L.length ≤ c) (hL : L.length ≤ 1000) (h0 : 0 < (flat L L.length).length) (hn : (flat L L.length).length ≤ 1000000) :
    Calls Tryd.prog 72 #[.slice (some ⟨bk, 0, none⟩) L.length c] w fun e w' => ∃ v, e = .returned v ∧ OwnStrs w' w.heap.size v (flat L L.length) ∧ Below w.heap.size w w' := by
  have H := Lib.hid h
  have HN := Lib.hid hn
  have H0 := Lib.hid h0
  clear h hn h0
  go_enter Tryd.func72, Tryd.ntmps72
  go_wp2
  go_loop [3, 11] (fun t u => ∃ k : Nat, k ≤ L.length ∧ u = .int .i64 k ∧ t = .int .i64 ((flat L k).length : Int)) (fun _ u => L.length - (intOf u).toNat)
  case atStart => exact ⟨0, Nat.zero_le _, rfl, rfl⟩
  case round =>
    obtain ⟨k, hk, rfl, rfl⟩ := hrel
    by_cases hlt : k < L.length
    · have hx : L[k]? = some L[k] := List.getElem?_eq_getElem hlt
      have hfs := flat_succ hx
      have hc := (H.out k _ hx).1
      have hle := flat_le L (k + 1)
      have hN := HN.out
      have hlen : (flat L (k + 1)).length = (flat L k).length + (L[k]).2.2.length := by rw [← hfs, List.length_append]
      have HLEN := Lib.hid hlen
      have hb1 : (flat L k).length ≤ 1000000 := by omega
      have hb2 : (L[k]).2.2.length ≤ 1000000 := by omega
      clear hx hfs hle hlen hN
      generalize L[k] = t at *
      obtain ⟨A1, c1, xs⟩ := t
      dsimp only at *
      have hc' : w.cell? ((⟨bk, 0, none⟩ : Addr).add k) = some (.slice A1 xs.length c1) := by rw [add_zero_off]; exact hc
      go_wp2
      go_roundw
      case rel => exact ⟨k + 1, by omega, by go_num, by rw [HLEN.out]; simp⟩
      case measure => simp [intOf]; omega
    · have hke : k = L.length := by omega
      subst hke
      have h0 := H0.out
      have hN := HN.out
      obtain ⟨n, hnn⟩ : ∃ n, (flat L L.length).length = n := ⟨_, rfl⟩
      rw [hnn] at h0 hN ⊢
      have HNN := Lib.hid hnn
      clear hnn
      go_wp2_with fail
      refine (grow_calls n h0 hN w).mono ?_
      rintro e w1 ⟨v, rfl, ho, hb⟩
      obtain ⟨VA, vc, rfl, _⟩ := ho.sl
      have HO := Lib.hid ho
      have HB := Lib.hid hb
      clear ho hb
      go_wp2
      go_loopw [6, 27] (fun t u wr => ∃ (k : Nat) (VA : Option Addr) (vc m : Nat), k ≤ L.length ∧ u = .int .i64 k ∧ t = .slice VA m vc ∧ Hid (m = (flat L k).length) ∧ Hid (OwnStrs wr w.heap.size (.slice VA m vc) (flat L k)) ∧ Hid (Below w.heap.size w wr)) (fun _ u _ => L.length - (intOf u).toNat)
      case atStart => exact ⟨0, VA, vc, 0, Nat.zero_le _, rfl, rfl, Lib.hid rfl, HO, HB⟩
      case round =>
        obtain ⟨k, VA, vc, m, hk, rfl, rfl, HM, HO, HB⟩ := hrel
        by_cases hlt : k < L.length
        · have hx : L[k]? = some L[k] := List.getElem?_eq_getElem hlt
          have HFS := Lib.hid (flat_succ hx)
          have hq := H.out.below HB.out k _ hx
          have hle := flat_le L (k + 1)
          have hlen : (flat L (k + 1)).length = (flat L k).length + (L[k]).2.2.length := by rw [← flat_succ hx, List.length_append]
          have hb2 : (flat L k).length + (L[k]).2.2.length ≤ 1000000 := by have := HNN.out; omega
          clear hx hle hlen
          generalize L[k] = t at *
          obtain ⟨A1, c1, xs⟩ := t
          dsimp only at *
          have hc := hq.1
          have hc' : wr.cell? ((⟨bk, 0, none⟩ : Addr).add k) = some (.slice A1 xs.length c1) := by rw [add_zero_off]; exact hc
          have HS := Lib.hid hq.2
          clear hq
          go_wp2_with (at_builtin; refine app_strs _ rfl _ _ rfl w.heap.size _ _ rfl HO.out _ _ xs rfl HS.out (by omega) HB.out.size ?_)
          intro v' w2 hown hgr _
          have HB2 := Lib.hid (below_of_grown HB.out hgr (fun k hk => (HO.out.block k hk).1))
          rw [HFS.out] at hown
          obtain ⟨VB, vc2, rfl, _⟩ := hown.sl
          have HO2 := Lib.hid hown
          obtain ⟨m2, hm2⟩ : ∃ m2, (flat L (k + 1)).length = m2 := ⟨_, rfl⟩
          rw [hm2] at HO2 ⊢
          have HM2 := Lib.hid hm2.symm
          clear hown hgr hm2
          go_wp2
          go_roundw
          case rel => exact ⟨k + 1, VB, vc2, m2, by omega, by go_num, rfl, HM2, HO2, HB2⟩
          case measure => simp [intOf]; omega
        · have hke : k = L.length := by omega
          subst hke
          go_wp2
          go_ret
          exact ⟨_, rfl, HO.out, HB.out⟩
end Go.Proofs.YtdilmfnijkjiaaaDoor.K
