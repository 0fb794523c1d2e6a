import Derived.Test.YtdilmfnijkjiaaaDoorK13b
set_option maxRecDepth 100000
namespace Go.Proofs.YtdilmfnijkjiaaaDoor.K
open Go.RowKit
theorem heap_set4 (w : World) (b : Nat) (u0 u1 u2 u3 : Value) (k : Nat) (hk : k ≠ b) : ((((w.setCell ⟨b, 0, none⟩ u0).setCell ⟨b, 1, none⟩ u1).setCell ⟨b, 2, none⟩ u2).setCell ⟨b, 3, none⟩ u3).heap[k]? = w.heap[k]? := by
  rw [Below.heap_setCell _ _ _ _ hk, Below.heap_setCell _ _ _ _ hk, Below.heap_setCell _ _ _ _ hk, Below.heap_setCell _ _ _ _ hk]
theorem size_set (w : World) (p : Addr) (u : Value) : (w.setCell p u).heap.size = w.heap.size := by simp [World.setCell]
theorem size_set4 (w : World) (b : Nat) (u0 u1 u2 u3 : Value) : ((((w.setCell ⟨b, 0, none⟩ u0).setCell ⟨b, 1, none⟩ u1).setCell ⟨b, 2, none⟩ u2).setCell ⟨b, 3, none⟩ u3).heap.size = w.heap.size := by
  rw [size_set, size_set, size_set, size_set]
theorem TabT.set4 {w : World} {g b : Nat} {ts : List Ty} {cs : Array Value} {t : TypeId} {fr : Nat × Nat} (h : TabT w g ts) (hb : w.heap[b]? = some (Obj.cells cs t fr)) (h3 : t ≠ 3) (h87 : t ≠ 87) (h100 : t ≠ 100) (u0 u1 u2 u3 : Value) :
    TabT ((((w.setCell ⟨b, 0, none⟩ u0).setCell ⟨b, 1, none⟩ u1).setCell ⟨b, 2, none⟩ u2).setCell ⟨b, 3, none⟩ u3) g ts := by
  have hs := size_set4 w b u0 u1 u2 u3
  have hk := heap_set4 w b u0 u1 u2 u3
  generalize ((((w.setCell ⟨b, 0, none⟩ u0).setCell ⟨b, 1, none⟩ u1).setCell ⟨b, 2, none⟩ u2).setCell ⟨b, 3, none⟩ u3) = W at *
  refine h.move (Nat.le_of_eq hs.symm) fun k cs' t' fr' hk' ht => hk k fun e => ?_
  subst e
  rw [hb] at hk'
  injection hk' with hk'
  injection hk' with _ hk' _
  rcases ht with ht | ht | ht
  · exact h3 (hk'.trans ht)
  · exact h87 (hk'.trans ht)
  · exact h100 (hk'.trans ht)
theorem TabT.set44 {w : World} {g b1 b2 : Nat} {ts : List Ty} {c1 c2 : Array Value} {f1 f2 : Nat × Nat} (h : TabT w g ts) (h1 : w.heap[b1]? = some (Obj.cells c1 34 f1)) (h2 : w.heap[b2]? = some (Obj.cells c2 36 f2)) (u0 u1 u2 u3 v0 v1 v2 v3 : Value) :
    TabT ((((((((w.setCell ⟨b1, 0, none⟩ u0).setCell ⟨b1, 1, none⟩ u1).setCell ⟨b1, 2, none⟩ u2).setCell ⟨b1, 3, none⟩ u3).setCell ⟨b2, 0, none⟩ v0).setCell ⟨b2, 1, none⟩ v1).setCell ⟨b2, 2, none⟩ v2).setCell ⟨b2, 3, none⟩ v3).drew g ts := by
  have hne : b2 ≠ b1 := fun e => by
    subst e
    rw [h1] at h2
    injection h2 with h2
    injection h2 with _ h2 _
    exact absurd h2 (by decide)
  have k1 := h.set4 h1 (by decide) (by decide) (by decide) u0 u1 u2 u3
  have k2 := (heap_set4 w b1 u0 u1 u2 u3 b2 hne).trans h2
  generalize ((((w.setCell ⟨b1, 0, none⟩ u0).setCell ⟨b1, 1, none⟩ u1).setCell ⟨b1, 2, none⟩ u2).setCell ⟨b1, 3, none⟩ u3) = W at *
  have k3 := k1.set4 k2 (by decide) (by decide) (by decide) v0 v1 v2 v3
  exact TabT.below k3 (below_drew' (below_refl _))
end Go.Proofs.YtdilmfnijkjiaaaDoor.K
