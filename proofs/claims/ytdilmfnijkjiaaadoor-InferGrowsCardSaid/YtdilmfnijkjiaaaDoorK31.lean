import Derived.Test.YtdilmfnijkjiaaaDoorK30
import Derived.Deep.RegionHeld3
import Derived.Deep.RegionWith
set_option maxRecDepth 100000
set_option linter.unusedSimpArgs false
set_option linter.unusedVariables false
namespace Go.Proofs.YtdilmfnijkjiaaaDoor.K
open Go.RowKit
theorem lit_str' (w : World) (x : ByteArray) (g : Nat) (h : g = w.heap.size) : StrSl (w.alloc (.cells #[.string x] 9)) (some ⟨g, 0, none⟩) 1 [x] := by
  subst h
  exact lit_str w x
def textOf (ls st : List Int) : ByteArray := ⟨(Lib.join ((ls.map wordOf ++ [(⟨#[124]⟩ : ByteArray)] ++ st.map wordOf).map fun b : ByteArray => b.data.toList) [32]).toArray⟩
/-- A row of strings at the head of block g. -/
structure RowStr (w : World) (g c n : Nat) (xs : List ByteArray) : Prop where
  len : n = xs.length
  lt : g < w.heap.size
  cap : n ≤ c
  cells : ∀ (j : Nat) x, xs[j]? = some x → w.cell? ⟨g, 0 + j, none⟩ = some (.string x)
theorem join_calls (g c n : Nat) (xs : List ByteArray) (w : World) (h : RowStr w g c n xs) (hn : xs.length ≤ 100000) (hl : (Lib.join (xs.map (·.data.toList)) [32]).length ≤ 140737488355328) :
    Calls Tryd.prog 71 #[.slice (some ⟨g, 0, none⟩) n c, .string ⟨#[32]⟩] w fun e w' => e = .returned (.string ⟨(Lib.join (xs.map (·.data.toList)) [32]).toArray⟩) ∧ Below w.heap.size w w' := by
  obtain ⟨rfl, h2, h3, h4⟩ := h
  exact Tryd.strings_Join g 0 c xs ⟨#[32]⟩ w h4 h2 (by omega) h3 hl
theorem word_len (n : Int) (h : -1 ≤ n ∧ n < 100) : (wordOf n).data.toList.length ≤ 2 := by
  unfold wordOf
  split
  · decide
  · have k : ∀ m : Fin 100, (Lib.decDigits m).length ≤ 2 := by decide +kernel
    simpa using k ⟨n.toNat, by omega⟩
theorem lens_le (l : List (List UInt8)) (h : ∀ x ∈ l, x.length ≤ 2) : Lib.lens l ≤ 2 * l.length := by
  induction l with
  | nil => simp [Lib.lens]
  | cons a l ih =>
    have h1 := h a (by simp)
    have h2 := ih (fun x hx => h x (by simp [hx]))
    simp only [Lib.lens, List.map_cons, List.sum_cons, List.length_cons] at h2 ⊢
    omega
theorem concat3 (bk : Nat) (A1 : Option Addr) (c1 n1 : Nat) (xs1 : List ByteArray) (B : Option Addr) (cB : Nat) (y : ByteArray) (A2 : Option Addr) (c2 n2 : Nat) (xs2 : List ByteArray) (w : World) (t : TypeId) (hb : w.heap[bk]? = some (.cells #[.slice A1 n1 c1, .slice B 1 cB, .slice A2 n2 c2] t))
    (e1 : n1 = xs1.length) (e2 : n2 = xs2.length) (h1 : StrSl w A1 c1 xs1) (hB : StrSl w B cB [y]) (h2 : StrSl w A2 c2 xs2) (hl1 : xs1.length ≤ 1000) (hl2 : xs2.length ≤ 1000) :
    Calls Tryd.prog 72 #[.slice (some ⟨bk, 0, none⟩) 3 3] w fun e w' => ∃ g c n, e = .returned (.slice (some ⟨g, 0, none⟩) n c) ∧ RowStr w' g c n (xs1 ++ [y] ++ xs2) ∧ Below w.heap.size w w' := by
  subst e1 e2
  have hf : flat [(A1, c1, xs1), (B, cB, [y]), (A2, c2, xs2)] 3 = xs1 ++ [y] ++ xs2 := by simp [flat]
  have k := concat_calls bk [(A1, c1, xs1), (B, cB, [y]), (A2, c2, xs2)] 3 w (fun j t hj => by
    match j, hj with
    | 0, hj => obtain rfl := Option.some.inj hj; exact ⟨cell_of_row _ _ 0 _ _ _ hb, h1⟩
    | 1, hj => obtain rfl := Option.some.inj hj; exact ⟨cell_of_row _ _ 1 _ _ _ hb, hB⟩
    | 2, hj => obtain rfl := Option.some.inj hj; exact ⟨cell_of_row _ _ 2 _ _ _ hb, h2⟩
    | (_ + 3), hj => simp at hj) (by simp) (by simp) (by show 0 < (flat _ 3).length; rw [hf]; simp; omega) (by show (flat _ 3).length ≤ _; rw [hf]; simp; omega)
  refine k.mono ?_
  rintro e w' ⟨v, rfl, ho, hbe⟩
  have ho' : OwnStrs w' w.heap.size v (xs1 ++ [y] ++ xs2) := by rw [← hf]; exact ho
  obtain ⟨A, c, hv, hs⟩ := ho'.sl
  rcases ho'.2 with ⟨_, h0⟩ | ⟨g, cap, cur, hv2, hgb, hg, _⟩
  · simp at h0
  · rw [hv] at hv2
    injection hv2 with e1 e2 e3
    subst e1 e3 hv
    exact ⟨g, c, _, rfl, ⟨rfl, (Array.getElem?_eq_some_iff.1 hg).1, hs.1, fun j x hj => by rw [Nat.zero_add, ← add_zero_off]; exact hs.2.2.2 _ rfl j x hj⟩, hbe⟩
set_option maxHeartbeats 1000000 in
theorem text_calls (LA : Option Addr) (lc : Nat) (ls : List Int) (SA : Option Addr) (sc : Nat) (st : List Int) (w : World) (hL : IntSl w LA lc ls) (hS : IntSl w SA sc st) (hr1 : ∀ n ∈ ls, -1 ≤ n ∧ n < 100) (hr2 : ∀ n ∈ st, -1 ≤ n ∧ n < 100) (hl1 : ls.length ≤ 1000) (hl2 : st.length ≤ 1000) :
    Calls Tryd.prog 29 #[frV (.slice LA ls.length lc) (.slice SA st.length sc)] w fun e w' => e = .returned (.string (textOf ls st)) ∧ Below w.heap.size w w' := by
  have HL := Lib.hid hL
  have HS := Lib.hid hS
  have HR1 := Lib.hid hr1
  have HR2 := Lib.hid hr2
  have HJL : Hid ((Lib.join ((ls.map wordOf ++ [(⟨#[124]⟩ : ByteArray)] ++ st.map wordOf).map (·.data.toList)) [32]).length ≤ 140737488355328) := Lib.hid (by
    generalize hxs : (ls.map wordOf ++ [(⟨#[124]⟩ : ByteArray)] ++ st.map wordOf).map (fun b : ByteArray => b.data.toList) = l
    have hl : l.length ≤ 2001 := by rw [← hxs]; simp; omega
    have h2 : ∀ x ∈ l, x.length ≤ 2 := by
      intro x hx
      rw [← hxs] at hx
      simp only [List.mem_map, List.mem_append, List.mem_singleton] at hx
      obtain ⟨y, (⟨n, hn, rfl⟩ | rfl) | ⟨n, hn, rfl⟩, rfl⟩ := hx
      · exact word_len n (hr1 n hn)
      · decide
      · exact word_len n (hr2 n hn)
    have h3 := lens_le l h2
    cases l with
    | nil => simp [Lib.join_nil]
    | cons a r =>
      rw [Lib.join_length]
      simp only [List.length_cons, List.length_nil] at hl h3 ⊢
      omega)
  clear hL hS hr1 hr2
  unfold frV
  have HB0 := Lib.hid (below_alloc' (o := .cells #[.slice LA ls.length lc, .slice SA st.length sc] 30) (below_refl w))
  have e0 : (w.alloc (.cells #[.slice LA ls.length lc, .slice SA st.length sc] 30)).cell? ⟨w.heap.size, 0, none⟩ = some (.slice LA ls.length lc) := cell_of_row _ _ 0 _ _ _ (heap_alloc_new _ _)
  have e1 : (w.alloc (.cells #[.slice LA ls.length lc, .slice SA st.length sc] 30)).cell? ⟨w.heap.size, 1, none⟩ = some (.slice SA st.length sc) := cell_of_row _ _ 1 _ _ _ (heap_alloc_new _ _)
  go_enter Tryd.func29, Tryd.ntmps29
  go_wp2
  go_region_held3 (fun w' => w'.cell? ⟨w.heap.size, 0, none⟩ = some (.slice LA ls.length lc) ∧ w'.cell? ⟨w.heap.size, 1, none⟩ = some (.slice SA st.length sc) ∧ Below w.heap.size w w')
    (first
      | (go_split_ands; exact ⟨by assumption, by assumption, by assumption⟩)
      | (go_split_ands; exact ⟨by assumption, by assumption, below_drew' HB0.out⟩)
      | (go_split_ands; exact ⟨cell_below (by assumption) (by assumption), cell_below (by assumption) (by assumption), below_then (by assumption) (by assumption)⟩)
      | (go_split_ands; exact ⟨cell_below (below_alloc' (below_refl _)) (by assumption), cell_below (below_alloc' (below_refl _)) (by assumption), below_alloc' (by assumption)⟩)
      | (go_keep; done))
    (first
      | (go_at_call 73; go_split_ands; with_reducible refine (words_calls LA lc ls _ (HL.out.below (by assumption)) HR1.out (by omega)).mono ?_; rintro e w2 ⟨v1, rfl, ho1, hb1⟩; obtain ⟨A1, c1, rfl, hs1⟩ := ho1.sl; rw [List.length_map]; have HS1 := Lib.hid hs1; clear ho1 hs1)
      | (go_at_call 73; go_split_ands; with_reducible refine (words_calls SA sc st _ (HS.out.below (by assumption)) HR2.out (by omega)).mono ?_; rintro e w3 ⟨v2, rfl, ho2, hb2⟩; obtain ⟨A2, c2, rfl, hs2⟩ := ho2.sl; rw [List.length_map]; have HS2 := Lib.hid hs2; clear ho2 hs2)
      | (go_at_call 72; go_split_ands; with_reducible refine (concat3 _ A1 c1 ls.length (ls.map wordOf) _ 1 ⟨#[124]⟩ A2 c2 st.length (st.map wordOf) _ 66 (by first | exact heap_alloc_new _ _ | exact (heap2 _ _ _).2) (by simp) (by simp) (HS1.out.below (by first | exact below_alloc' (below_then (below_alloc' (below_refl _)) hb2) | exact below_alloc' hb2 | exact below_alloc' (below_alloc' hb2))) (by first | exact (lit_str _ _).below (below_alloc' hb2) | exact (lit_str _ _).below (below_alloc' (below_refl _)) | exact (lit_str' (w.alloc (.cells #[.slice LA ls.length lc, .slice SA st.length sc] 30)) _ _ (by simp)).below (below_alloc' (below_then (below_drew' (below_refl _)) (below_then hb1 hb2))) | exact (lit_str' (w.alloc (.cells #[.slice LA ls.length lc, .slice SA st.length sc] 30)).drew _ _ (by simp)).below (below_alloc' (below_then hb1 hb2))) (HS2.out.below (by first | exact below_alloc' (below_refl _) | exact below_alloc' (below_alloc' (below_refl _)))) (by simp; omega) (by simp; omega)).mono ?_; rintro e w5 ⟨g5, c5, n5, rfl, hs5, hb5⟩; have HS5 := Lib.hid hs5; clear hs5)
      | (go_at_call 71; go_split_ands; with_reducible refine (join_calls g5 c5 n5 _ w5 HS5.out (by simp; omega) HJL.out).mono ?_; rintro e w6 ⟨rfl, hb6⟩))
  all_goals go_wp2
  all_goals go_ret
  all_goals refine ⟨by simp [textOf, Function.comp_def], ?_⟩
  all_goals exact below_then (by assumption) hb6
end Go.Proofs.YtdilmfnijkjiaaaDoor.K
