import Derived.Test.YtdilmfnijkjiaaaDoorK43
import Derived.Test.YtdilmfnijkjiaaaDoorK25
import Derived.Test.YtdilmfnijkjiaaaDoorK26
set_option maxRecDepth 100000
set_option linter.unusedSimpArgs false
set_option linter.unusedVariables false
namespace Go.Proofs.YtdilmfnijkjiaaaDoor.K
open Go.RowKit
theorem Le.refl (xs : List Int) : Le xs xs := ⟨rfl, fun j x y h k => .inr (Option.some.inj (h.symm.trans k))⟩
theorem Le.drop {xs ys : List Int} (h : Le xs ys) (n : Nat) : Le (xs.drop n) (ys.drop n) := ⟨by simp [h.1], fun j x y hx hy => h.2 (n + j) x y (by rw [← List.getElem?_drop]; exact hx) (by rw [← List.getElem?_drop]; exact hy)⟩
theorem Le.take {xs ys : List Int} (h : Le xs ys) (n : Nat) : Le (xs.take n) (ys.take n) := ⟨by simp [h.1], fun j x y hx hy => by
  have h1 := (List.getElem?_eq_some_iff.1 hx).1
  rw [List.length_take] at h1
  rw [List.getElem?_take_of_lt (by omega)] at hx hy
  exact h.2 j x y hx hy⟩
theorem Le.append {xs ys us vs : List Int} (h : Le xs ys) (k : Le us vs) : Le (xs ++ us) (ys ++ vs) := ⟨by simp [h.1, k.1], fun j x y hx hy => by
  rcases Nat.lt_or_ge j xs.length with hj | hj
  · rw [List.getElem?_append_left hj] at hx
    rw [List.getElem?_append_left (by rw [← h.1]; exact hj)] at hy
    exact h.2 j x y hx hy
  · rw [List.getElem?_append_right hj] at hx
    rw [List.getElem?_append_right (by rw [← h.1]; exact hj), ← h.1] at hy
    exact k.2 _ x y hx hy⟩
theorem Le.get {xs ys : List Int} (h : Le xs ys) (i : Nat) : ys.getD i 0 = -1 ∨ xs.getD i 0 = ys.getD i 0 := by
  rw [List.getD_eq_getElem?_getD, List.getD_eq_getElem?_getD]
  rcases Nat.lt_or_ge i xs.length with hi | hi
  · have hi' : i < ys.length := by rw [← h.1]; exact hi
    rw [List.getElem?_eq_getElem hi, List.getElem?_eq_getElem hi']
    exact h.2 i _ _ (List.getElem?_eq_getElem hi) (List.getElem?_eq_getElem hi')
  · rw [List.getElem?_eq_none hi, List.getElem?_eq_none (by rw [← h.1]; exact hi)]
    exact .inr rfl
theorem Le.one {x y : Int} (h : y = -1 ∨ x = y) : Le [x] [y] := ⟨rfl, fun j a b ha hb => by
  match j, ha, hb with
  | 0, ha, hb =>
    obtain rfl := Option.some.inj ha
    obtain rfl := Option.some.inj hb
    exact h
  | j + 1, ha, hb => simp at ha⟩
theorem Le.two {x y u v : Int} (h : y = -1 ∨ x = y) (k : v = -1 ∨ u = v) : Le [x, u] [y, v] := (Le.one h).append (Le.one k)
theorem Le.set {xs ys : List Int} (h : Le xs ys) (i : Nat) {x y : Int} (k : y = -1 ∨ x = y) : Le (xs.set i x) (ys.set i y) := ⟨by simp [h.1], fun j a b ha hb => by
  have h1 := (List.getElem?_eq_some_iff.1 ha).1
  rw [List.length_set] at h1
  by_cases e : i = j
  · subst e
    rw [List.getElem?_set_self h1] at ha
    rw [List.getElem?_set_self (by rw [← h.1]; exact h1)] at hb
    obtain rfl := Option.some.inj ha
    obtain rfl := Option.some.inj hb
    exact k
  · rw [List.getElem?_set_ne e] at ha hb
    exact h.2 j a b ha hb⟩
theorem Le.tail {x y : Int} {xs ys : List Int} (h : Le (x :: xs) (y :: ys)) : Le xs ys := h.drop 1
theorem Le.head {x y : Int} {xs ys : List Int} (h : Le (x :: xs) (y :: ys)) : y = -1 ∨ x = y := h.2 0 x y rfl rfl
theorem take_mono {err err' : Int} (he : err' = 0 → err = 0) : ∀ (ns gs gs' : List Int), Le gs gs' → takeErr err' ns gs' = 0 → takeErr err ns gs = 0
  | [], _, _, _, h => he h
  | _ :: _, [], [], _, h => he h
  | _ :: _, [], _ :: _, hl, _ => by have := hl.1; simp at this
  | _ :: _, _ :: _, [], hl, _ => by have := hl.1; simp at this
  | n :: ns, g :: gs, g' :: gs', hl, h => by
    have ih := take_mono he ns gs gs' hl.tail
    have hh := hl.head
    unfold takeErr at ih h ⊢
    simp only [List.zip_cons_cons, List.foldr_cons] at h ⊢
    generalize List.foldr stepErr err' (ns.zip gs') = e' at *
    generalize List.foldr stepErr err (ns.zip gs) = e at *
    unfold stepErr at h ⊢
    by_cases h0 : e' = 0
    · rw [if_pos h0] at h
      rw [if_pos (ih h0)]
      simp only [needErr] at h ⊢
      rcases hh with rfl | rfl
      · revert h
        (repeat' split) <;> simp_all
      · exact h
    · rw [if_neg h0] at h
      exact absurd h h0
theorem pre_mono {TS : List Ty} {fs : List Fn} {op a b : Int} {ls ls' : List Int} (h : Le ls ls') : preErr TS fs op a b ls' = 0 → preErr TS fs op a b ls = 0 := by
  unfold preErr
  by_cases h3 : op = 3
  · have hg := h.get a.toNat
    have h29 : ¬ op = 29 := by omega
    simp only [h3, true_and]
    intro hh
    by_cases e : ls'.getD a.toNat 0 = -1
    · rw [if_pos e] at hh; omega
    · have : ls.getD a.toNat 0 = ls'.getD a.toNat 0 := hg.resolve_left e
      rw [this]
      exact hh
  · simp only [h3, false_and, if_false]
    exact id
theorem leave_mono (TS : List Ty) (fs : List Fn) (op a b : Int) {ls ls' got got' : List Int} (h : Le ls ls') (k : Le got got') : Le (leaveF TS fs op a b ls got) (leaveF TS fs op a b ls' got') := by
  unfold leaveF
  (repeat' split) <;> first | exact Le.refl _ | exact Le.one (h.get _) | exact Le.two (k.get _) (k.get _)
theorem locals_mono (op a : Int) {ls ls' got got' : List Int} (h : Le ls ls') (k : Le got got') : Le (localsF op a ls got) (localsF op a ls' got') := by
  unfold localsF
  split
  · exact h.set _ (k.get _)
  · exact h
theorem err_mono {TS : List Ty} {fs : List Fn} {op a b res : Int} {ls ls' got got' : List Int} (h : Le ls ls') (k : Le got got') (hn : got.length = (needF TS fs op a b res).length) (h0 : errF TS fs op a b res ls' got' = 0) : errF TS fs op a b res ls got = 0 := by
  by_cases h14 : op = 14
  · subst h14
    have e : needF TS fs 14 a b res = [-2, -2] := by simp [needF]
    have p : ∀ l, preErr TS fs 14 a b l = 0 := fun l => by simp [preErr]
    rw [e] at hn
    match got, hn, got', k.1 with
    | [x, y], _, [x', y'], _ =>
      have k1 := k.head
      have k2 := k.tail.head
      unfold errF at h0 ⊢
      rw [e, p] at h0 ⊢
      simp [takeErr, stepErr, needErr, failErr] at h0 ⊢
      rcases k1 with rfl | rfl <;> rcases k2 with rfl | rfl <;> simp_all
  · rw [errF_plain h14] at h0 ⊢
    exact take_mono (pre_mono h) _ _ _ k h0
theorem step_mono (TS : List Ty) (fs : List Fn) (lo cd op a b res : Int) {ls ls' st st' : List Int} (hL : Le ls ls') (hS : Le st st') :
    Le (stepM TS fs lo cd op a b res ls st).1 (stepM TS fs lo cd op a b res ls' st').1 ∧ Le (stepM TS fs lo cd op a b res ls st).2.1 (stepM TS fs lo cd op a b res ls' st').2.1 ∧ ((stepM TS fs lo cd op a b res ls' st').2.2 = 0 → (stepM TS fs lo cd op a b res ls st).2.2 = 0) := by
  unfold stepM
  rw [← hL.1, ← hS.1]
  by_cases h1 : rightR (rowOf op) TS fs.length lo cd a b = false ∨ (ls.length : Int) ≠ lo
  · rw [if_pos h1, if_pos h1]
    exact ⟨Le.refl _, Le.refl _, id⟩
  rw [if_neg h1, if_neg h1]
  by_cases h2 : (st.length : Int) < (effR (rowOf op) TS fs op a b).1
  · rw [if_pos h2, if_pos h2]
    exact ⟨Le.refl _, Le.refl _, id⟩
  rw [if_neg h2, if_neg h2]
  by_cases h3 : 24 < (st.length : Int) - (effR (rowOf op) TS fs op a b).1 + (effR (rowOf op) TS fs op a b).2
  · rw [if_pos h3, if_pos h3]
    exact ⟨Le.refl _, Le.refl _, id⟩
  rw [if_neg h3, if_neg h3]
  have hr : rightR (rowOf op) TS fs.length lo cd a b = true := by
    cases e : rightR (rowOf op) TS fs.length lo cd a b with
    | true => rfl
    | false => exact absurd (.inl e) h1
  have hin := right_in hr
  have hn := eff_need TS fs op a b res hin.1 hin.2
  have hd := hS.drop (st.length - (needF TS fs op a b res).length)
  refine ⟨locals_mono op a hL hd, (hS.take _).append (leave_mono TS fs op a b hL hd), fun h => err_mono hL hd ?_ h⟩
  rw [List.length_drop]
  omega
end Go.Proofs.YtdilmfnijkjiaaaDoor.K
