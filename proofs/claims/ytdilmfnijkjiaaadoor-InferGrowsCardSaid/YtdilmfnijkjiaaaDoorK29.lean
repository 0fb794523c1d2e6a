import Derived.Test.YtdilmfnijkjiaaaDoorK28
import Derived.Test.YtdilmfnijkjiaaaDoorShelf
set_option maxRecDepth 100000
set_option linter.unusedSimpArgs false
set_option linter.unusedVariables false
namespace Go.Proofs.YtdilmfnijkjiaaaDoor.K
open Go.RowKit
/-- A slot as it is written. -/
def wordOf (n : Int) : ByteArray := if n = -1 then ⟨#[45]⟩ else ⟨(Lib.decDigits n.toNat).toArray⟩
theorem lit_str (w : World) (x : ByteArray) : StrSl (w.alloc (.cells #[.string x] 9)) (some ⟨w.heap.size, 0, none⟩) 1 [x] := by
  refine ⟨Nat.le_refl _, by omega, (fun e => by cases e), fun ad e j y hj => ?_⟩
  obtain rfl := Option.some.inj e
  rw [add_zero_off, cell_of_row _ _ _ _ _ _ (heap_alloc_new w _)]
  cases j with
  | zero => cases hj; rfl
  | succ j => simp at hj
def wtake (ns : List Int) (k : Nat) : List ByteArray := (ns.take k).map wordOf
theorem wtake_length (ns : List Int) (k : Nat) (h : k ≤ ns.length) : (wtake ns k).length = k := by unfold wtake; rw [List.length_map, List.length_take]; omega
theorem wtake_all (ns : List Int) : wtake ns ns.length = ns.map wordOf := by unfold wtake; rw [List.take_length]
theorem map_take_succ (ns : List Int) (k : Nat) (x : Int) (hx : ns[k]? = some x) : wtake ns k ++ [wordOf x] = wtake ns (k + 1) := by
  unfold wtake
  rw [List.take_add_one, hx]
  simp
set_option maxHeartbeats 1000000 in
theorem words_calls (A : Option Addr) (c : Nat) (ns : List Int) (w : World) (h : IntSl w A c ns) (hr : ∀ n ∈ ns, -1 ≤ n ∧ n < 100) (hl : ns.length * 16 ≤ 140737488355328) :
    Calls Tryd.prog 73 #[.slice A ns.length c] w fun e w' => ∃ v, e = .returned v ∧ OwnStrs w' w.heap.size v (ns.map wordOf) ∧ Below w.heap.size w w' := by
  have hnl : ns.length ≤ 9223372036854775807 := by omega
  have HI := Lib.hid h
  have HR := Lib.hid hr
  clear h hr
  go_enter Tryd.func73, Tryd.ntmps73
  go_wp2
  go_loopw [3, 8] (fun t u wr => ∃ (k : Nat) (VA : Option Addr) (vc : Nat), k ≤ ns.length ∧ u = .int .i64 k ∧ t = .slice VA k vc ∧ Hid (OwnStrs wr w.heap.size (.slice VA k vc) (wtake ns k)) ∧ Hid (Below w.heap.size w wr)) (fun _ u _ => ns.length - (intOf u).toNat)
  case atStart => exact ⟨0, none, 0, Nat.zero_le _, rfl, rfl, Lib.hid (OwnStrs.nil w _), Lib.hid (below_refl w)⟩
  case round =>
    obtain ⟨k, VA, vc, hk, rfl, rfl, HO, HB⟩ := hrel
    by_cases hlt : k < ns.length
    · obtain ⟨ad, rfl, hel⟩ := HI.out.getI (k : Int) (by omega) (by omega)
      have hx : ns[k]? = some (ns.getD k 0) := by rw [List.getD_eq_getElem?_getD, List.getElem?_eq_getElem hlt]; rfl
      rw [Int.toNat_natCast] at hel
      have hel' := cell_below HB.out hel
      have hrg := HR.out _ (List.mem_of_getElem? hx)
      have HX := Lib.hid (map_take_succ ns k _ hx)
      clear hel hx
      generalize ns.getD k 0 = x at *
      have hl1 : (wtake ns k).length = k := wtake_length ns _ (by omega)
      have HOK := Lib.hid (fun (W : World) (v : Value) (x : Int) (ho : OwnStrs W w.heap.size v (wtake ns k ++ [wordOf x])) (hq : wtake ns k ++ [wordOf x] = wtake ns (k + 1)) => (show OwnStrs W w.heap.size v (wtake ns (k + 1)) by rw [← hq]; exact ho))
      by_cases hv : x = -1
      · subst hv
        go_wp2_with (at_builtin; refine app_strs _ rfl _ _ rfl w.heap.size _ _ rfl (HO.out.below (below_alloc' (below_refl _))) _ _ [⟨#[45]⟩] rfl (lit_str _ _) (by rw [hl1]; simp; omega) (by have := HB.out.size; simp; omega) ?_)
        intro v' w1 hown hgr _
        have HB1 := Lib.hid (below_of_grown (below_then HB.out (below_alloc' (o := .cells #[.string ⟨#[45]⟩] 9) (below_refl wr))) hgr (fun k hk => (HO.out.block k hk).1))
        rw [show (⟨#[45]⟩ : ByteArray) = wordOf (-1) by unfold wordOf; rw [if_pos rfl]] at hown
        have ho2 := HOK.out w1 v' (-1) hown HX.out
        obtain ⟨VB, vc2, rfl, _⟩ := ho2.sl
        have hl2 : (wtake ns (k + 1)).length = k + 1 := wtake_length ns _ (by omega)
        rw [hl2] at ho2 ⊢
        have HO2 := Lib.hid ho2
        clear hown hgr ho2 hl1 hl2 HOK HX
        go_wp2
        go_roundw
        case rel => exact ⟨k + 1, VB, vc2, by omega, by go_num, rfl, HO2, HB1⟩
        case measure => simp [intOf]; omega
      · have hx1 : (x == -1) = false := beq_eq_false_iff_ne.2 hv
        obtain ⟨n, rfl⟩ := Int.eq_ofNat_of_zero_le (show 0 ≤ x by omega)
        have HC := Lib.hid (Tryd.strconv_Itoa_small n (by omega) wr)
        have hw : wordOf (n : Int) = ⟨(Lib.decDigits n).toArray⟩ := by unfold wordOf; rw [if_neg hv]; simp
        have HWD := Lib.hid hw
        clear hw hv
        generalize (Lib.decDigits n).toArray = q at HC HWD
        go_wp2_with fail
        refine HC.out.mono ?_
        rintro e w2 ⟨rfl, he⟩
        have he' := he.symm
        subst he'
        clear he
        go_wp2_with (at_builtin; refine app_strs _ rfl _ _ rfl w.heap.size _ _ rfl (HO.out.below (below_alloc' (below_refl _))) _ _ [⟨q⟩] rfl (lit_str _ _) (by rw [hl1]; simp; omega) (by have := HB.out.size; simp; omega) ?_)
        intro v' w1 hown hgr _
        rw [← HWD.out] at hown
        have HB1 := Lib.hid (below_of_grown (below_then HB.out (below_alloc' (o := .cells #[.string ⟨q⟩] 9) (below_refl wr))) hgr (fun k hk => (HO.out.block k hk).1))
        have ho2 := HOK.out w1 v' n hown HX.out
        obtain ⟨VB, vc2, rfl, _⟩ := ho2.sl
        have hl2 : (wtake ns (k + 1)).length = k + 1 := wtake_length ns _ (by omega)
        rw [hl2] at ho2 ⊢
        have HO2 := Lib.hid ho2
        clear hown hgr ho2 hl1 hl2 HOK HX
        go_wp2
        go_roundw
        case rel => exact ⟨k + 1, VB, vc2, by omega, by go_num, rfl, HO2, HB1⟩
        case measure => simp [intOf]; omega
    · have hke : k = ns.length := by omega
      subst hke
      rw [wtake_all] at HO
      go_wp2
      go_ret
      exact ⟨_, rfl, HO.out, HB.out⟩
end Go.Proofs.YtdilmfnijkjiaaaDoor.K
