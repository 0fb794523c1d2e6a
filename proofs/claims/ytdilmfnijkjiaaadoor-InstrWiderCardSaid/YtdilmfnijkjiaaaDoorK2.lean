import Derived.Test.YtdilmfnijkjiaaaDoorK1
set_option maxRecDepth 100000
namespace Go.Proofs.YtdilmfnijkjiaaaDoor.K
open Go.RowKit

set_option maxHeartbeats 400000 in
theorem has_yes (g : Nat) (ts : List Ty) (n : Int) (w : World) (h : Tab w g ts) (h0 : 0 ≤ n) (h1 : n < ts.length) :
    Calls Tryd.prog 74 #[.pointer (some ⟨g, 0, none⟩), .int .i64 n] w fun e w' => e = .returned (.bool true) ∧ w = w' := by
  obtain ⟨A, c, L, m, lc, hg, ht⟩ := h
  have c0 : w.cell? ⟨g, 0, none⟩ = some (.slice A ts.length c) := cell_of_row w g 0 _ _ _ hg
  clear ht hg
  go_enter Tryd.func74, Tryd.ntmps74
  go_wp2
  go_ret
  exact ⟨rfl, rfl⟩
set_option maxHeartbeats 400000 in
theorem has_no (g : Nat) (ts : List Ty) (n : Int) (w : World) (h : Tab w g ts) (h0 : n < 0 ∨ ts.length ≤ n) :
    Calls Tryd.prog 74 #[.pointer (some ⟨g, 0, none⟩), .int .i64 n] w fun e w' => e = .returned (.bool false) ∧ w = w' := by
  obtain ⟨A, c, L, m, lc, hg, ht⟩ := h
  have c0 : w.cell? ⟨g, 0, none⟩ = some (.slice A ts.length c) := cell_of_row w g 0 _ _ _ hg
  clear ht hg
  by_cases h1 : 0 ≤ n
  · have h0' : ¬ n < ts.length := by omega
    go_enter Tryd.func74, Tryd.ntmps74
    go_wp2
    go_ret
    exact ⟨rfl, rfl⟩
  · go_enter Tryd.func74, Tryd.ntmps74
    go_wp2
    go_ret
    exact ⟨rfl, rfl⟩

def kOf (ts : List Ty) (n : Int) : Int := if 0 ≤ n ∧ n < ts.length then (tyAt ts n).kind else -1
def ofOf (ts : List Ty) (n : Int) : Int := if kOf ts n ≤ 2 then -1 else (tyAt ts n).of
def partsOf (ts : List Ty) (n : Int) : List Int := if 0 ≤ n ∧ n < ts.length then (tyAt ts n).parts else []

set_option maxHeartbeats 400000 in
theorem kind_calls (g : Nat) (ts : List Ty) (n : Int) (w : World) (h : Tab w g ts) :
    Calls Tryd.prog 30 #[.pointer (some ⟨g, 0, none⟩), .int .i64 n] w fun e w' => e = .returned (.int .i64 (kOf ts n)) ∧ w = w' := by
  by_cases hn : 0 ≤ n ∧ n < ts.length
  · have hc := has_yes g ts n w h hn.1 hn.2
    obtain ⟨A, c, L, m, lc, hg, ht⟩ := h
    have c0 : w.cell? ⟨g, 0, none⟩ = some (.slice A ts.length c) := cell_of_row w g 0 _ _ _ hg
    obtain ⟨ad, A', c', rfl, g0, _, _, _⟩ := ht.get n hn.1 hn.2
    have e : kOf ts n = (tyAt ts n).kind := by unfold kOf; rw [if_pos hn]
    rw [e]
    obtain ⟨h0, h1⟩ := hn
    have HC := Lib.hid hc
    clear ht hg e hc
    go_enter Tryd.func30, Tryd.ntmps30
    go_wp2_with (go_at_call 74; refine HC.out.mono ?_; rintro e w' ⟨rfl, rfl⟩)
    go_ret
    exact ⟨rfl, rfl⟩
  · have hc := has_no g ts n w h (by omega)
    have e : kOf ts n = -1 := by unfold kOf; rw [if_neg hn]
    rw [e]
    have HC := Lib.hid hc
    clear hn e hc
    go_enter Tryd.func30, Tryd.ntmps30
    go_wp2_with (go_at_call 74; refine HC.out.mono ?_; rintro e w' ⟨rfl, rfl⟩)
    go_ret
    exact ⟨rfl, rfl⟩
set_option maxHeartbeats 400000 in
theorem of_calls (g : Nat) (ts : List Ty) (n : Int) (w : World) (h : Tab w g ts) :
    Calls Tryd.prog 32 #[.pointer (some ⟨g, 0, none⟩), .int .i64 n] w fun e w' => e = .returned (.int .i64 (ofOf ts n)) ∧ w = w' := by
  have HC := Lib.hid (kind_calls g ts n w h)
  unfold ofOf
  by_cases hk : kOf ts n ≤ 2
  · rw [if_pos hk]
    clear h
    go_enter Tryd.func32, Tryd.ntmps32
    go_wp2_with (go_at_call 30; refine HC.out.mono ?_; rintro e w' ⟨rfl, rfl⟩)
    go_ret
    exact ⟨rfl, rfl⟩
  · have hn : 0 ≤ n ∧ n < ts.length := by unfold kOf at hk; split at hk <;> first | assumption | omega
    rw [if_neg hk]
    obtain ⟨A, c, L, m, lc, hg, ht⟩ := h
    have c0 : w.cell? ⟨g, 0, none⟩ = some (.slice A ts.length c) := cell_of_row w g 0 _ _ _ hg
    obtain ⟨ad, A', c', rfl, _, _, g2, _⟩ := ht.get n hn.1 hn.2
    obtain ⟨h0, h1⟩ := hn
    clear ht hg
    go_enter Tryd.func32, Tryd.ntmps32
    go_wp2_with (go_at_call 30; refine HC.out.mono ?_; rintro e w' ⟨rfl, rfl⟩)
    go_ret
    exact ⟨rfl, rfl⟩
set_option maxHeartbeats 400000 in
theorem parts_calls (g : Nat) (ts : List Ty) (n : Int) (w : World) (h : Tab w g ts) (hl : (partsOf ts n).length * 8 ≤ 140737488355328) :
    Calls Tryd.prog 31 #[.pointer (some ⟨g, 0, none⟩), .int .i64 n] w fun e w' => ∃ v, e = .returned v ∧ OwnInts w' w.heap.size v (partsOf ts n) ∧ Below w.heap.size w w' := by
  by_cases hn : 0 ≤ n ∧ n < ts.length
  · have HC := Lib.hid (has_yes g ts n w h hn.1 hn.2)
    obtain ⟨A, c, L, m, lc, hg, ht⟩ := h
    have c0 : w.cell? ⟨g, 0, none⟩ = some (.slice A ts.length c) := cell_of_row w g 0 _ _ _ hg
    obtain ⟨ad, A', c', rfl, _, g1, _, hi⟩ := ht.get n hn.1 hn.2
    have e : partsOf ts n = (tyAt ts n).parts := by unfold partsOf; rw [if_pos hn]
    rw [e] at hl ⊢
    obtain ⟨h0, h1⟩ := hn
    have HD := Lib.hid (clone_calls A' c' (tyAt ts n).parts w hi hl)
    clear ht hg e hi hl
    go_enter Tryd.func31, Tryd.ntmps31
    go_wp2_with (first | (go_at_call 74; refine HC.out.mono ?_; rintro e w' ⟨rfl, rfl⟩) | (go_at_call 69; refine HD.out.mono ?_; rintro e w' ⟨v, rfl, ho, hb⟩; have HO := Lib.hid ho; have HB := Lib.hid hb; clear ho hb))
    go_ret
    exact ⟨_, rfl, HO.out, HB.out⟩
  · have HC := Lib.hid (has_no g ts n w h (by omega))
    have e : partsOf ts n = [] := by unfold partsOf; rw [if_neg hn]
    rw [e]
    clear hn e hl
    go_enter Tryd.func31, Tryd.ntmps31
    go_wp2_with (go_at_call 74; refine HC.out.mono ?_; rintro e w' ⟨rfl, rfl⟩)
    go_ret
    exact ⟨_, rfl, OwnInts.nil w _, below_refl w⟩
end Go.Proofs.YtdilmfnijkjiaaaDoor.K
