import Derived.Test.YtdilmfnijkjiaaaDoorK62
set_option maxRecDepth 100000
set_option linter.unusedSimpArgs false
set_option linter.unusedVariables false
namespace Go.Proofs.YtdilmfnijkjiaaaDoor.K
open Go.RowKit
theorem tableAll_calls (w : World) : Calls Tryd.prog 91 #[] w fun e w' => ∃ b, e = .returned (.slice (some ⟨b, 0, none⟩) 38 38) ∧ w.heap.size ≤ b ∧ w'.heap[b]? = some (.cells tableCells 128 (0, 0)) ∧ Below w.heap.size w w' := by
  have HT := Lib.hid (table_calls w)
  go_enter Tryd.func91, Tryd.ntmps91
  go_wp2_with fail
  refine HT.out.mono ?_
  rintro e w1 ⟨rfl, hb⟩
  have HB := Lib.hid hb
  clear hb HT
  rename_i K1 h1 K2 h2
  refine h2 _ _ ?_
  refine wpList_take 1 _ _ w1 ⟨#[.slice none 0 0, .pointer (some ⟨w1.heap.size, 0, none⟩), .agg tableCells, undef], []⟩ (w1.alloc (.cells tableZero 128)) (by kernel_rfl) ?_
  simp only [List.drop_succ_cons, List.drop_zero]
  refine wpList_store_new w1 rfl 128 (.tmp 1) (.tmp 2) rfl tableZero tableCells (by kernel_rfl) (by kernel_rfl) (by rw [size_table]; exact info128) (by rw [size_zero, size_table]) (by kernel_rfl) ?_
  refine wpList_nil ?_
  refine h1 _ _ ?_
  have hn := heap_alloc_new w1 (.cells tableCells 128)
  have hbz : Below w.heap.size w (w1.alloc (.cells tableCells 128)) := below_alloc' HB.out
  have hsz := HB.out.size
  have HN := Lib.hid hn
  have HBZ := Lib.hid hbz
  have HS := Lib.hid hsz
  clear hn hbz hsz
  generalize w1.alloc (.cells tableCells 128) = w2 at *
  go_wp2
  go_ret
  exact ⟨_, rfl, HS.out, HN.out, HBZ.out⟩
theorem rowAt_table (w : World) (b : Nat) (h : w.heap[b]? = some (.cells tableCells 128 (0, 0))) (k : Nat) (r : Rw) (hr : rws[k]? = some r) : RowAt w ⟨b, 0, none⟩ k r := by
  obtain ⟨hk, rfl⟩ := List.getElem?_eq_some_iff.1 hr
  have hk38 : k < 38 := hk
  have e := table_ext k hk38
  rw [List.getD_eq_getElem?_getD, hr] at e
  simp only [Option.getD_some] at e
  have hg : ∀ i v, i < 6 → (rws[k]).cells[i]? = some v → w.cell? ((⟨b, 0, none⟩ : Addr).add (k * 6 + i)) = some v := fun i v hi hv => by
    rw [add_zero_off, cell_of_row _ _ _ _ _ _ h]
    have e2 := congrArg (fun a : Array Value => a[i]?) e
    simp only [List.getElem?_toArray] at e2
    have e3 := e2.trans hv
    rw [Array.getElem?_extract] at e3
    split at e3
    · exact e3
    · cases e3
  exact ⟨hg 0 _ (by omega) rfl, hg 1 _ (by omega) rfl, hg 2 _ (by omega) rfl, hg 3 _ (by omega) rfl, hg 4 _ (by omega) rfl, hg 5 _ (by omega) rfl⟩
set_option maxHeartbeats 1000000 in
theorem opI_calls (s : ByteArray) (w : World) : Calls Tryd.prog 45 #[.string s] w (OpPost w s) := by
  have hb0 : Below w.heap.size w (w.alloc (.cells #[.string s] 9)) := below_alloc' (below_refl w)
  have hc : (w.alloc (.cells #[.string s] 9)).cell? ⟨w.heap.size, 0, none⟩ = some (.string s) := by rw [cell_of_row _ _ _ _ _ _ (heap_alloc_new w _)]; rfl
  have HT := Lib.hid (tableAll_calls (w.alloc (.cells #[.string s] 9)))
  have HB0 := Lib.hid hb0
  have HC := Lib.hid hc
  clear hb0 hc
  go_enter Tryd.func45, Tryd.ntmps45
  go_wp2_with fail
  refine HT.out.mono ?_
  rintro e w1 ⟨b, rfl, hbb, hrow, hb⟩
  have HB1 := Lib.hid (below_then HB0.out hb)
  have HX := Lib.hid (opindex_calls s w.heap.size ⟨b, 0, none⟩ w1 (cell_below hb HC.out) (rowAt_table w1 b hrow))
  clear hb hbb hrow HT
  go_wp2_with fail
  refine HX.out.mono ?_
  rintro e w2 ⟨rfl, hb⟩
  have HB2 := Lib.hid (below_then HB1.out hb)
  clear hb HX
  unfold OpPost
  go_wp2_with fail
  go_ret
  exact ⟨rfl, HB2.out⟩
end Go.Proofs.YtdilmfnijkjiaaaDoor.K
