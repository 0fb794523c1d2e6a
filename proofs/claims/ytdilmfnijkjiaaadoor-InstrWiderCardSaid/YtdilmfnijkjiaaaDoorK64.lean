import Derived.Test.YtdilmfnijkjiaaaDoorK63
import Derived.Test.YtdilmfnijkjiaaaDoorShelf
import Derived.Test.YtdilmfnijkjiaaaDoorShelfP
import Derived.Lib.ParseIntBMem
import Derived.Lib.AppendIntMem
import Derived.Lib.LaidTab
set_option maxRecDepth 100000
set_option linter.unusedSimpArgs false
set_option linter.unusedVariables false
namespace Go.Proofs.YtdilmfnijkjiaaaDoor.K
open Go.RowKit
/-- What the library's functions read of the package-level variables. -/
structure Env (w : World) : Prop where
  maxl : ∃ m, w.cell? ⟨0, 0, none⟩ = some (.int .i64 m)
  tab : Lib.TabIs Tryd.prog w "internal/strconv.uint64pow10" .u64 Lib.pow10Tab
  syn : ∃ te pe, w.cell? ⟨2, 0, none⟩ = some (.iface te pe)
  ran : ∃ te pe, w.cell? ⟨3, 0, none⟩ = some (.iface te pe)
theorem glob1 : Tryd.prog.globalNamed "internal/strconv.uint64pow10" = some 1 := by kernel_rfl
theorem Env.below {w w1 : World} (h : Env w) (hb : Below w.heap.size w w1) : Env w1 := by
  obtain ⟨⟨m, hm⟩, ht, ⟨t1, p1, h1⟩, ⟨t2, p2, h2⟩⟩ := h
  have hlt : 2 < w.heap.size := World.block_lt_of_cell? w _ h1
  refine ⟨⟨m, cell_below hb hm⟩, ?_, ⟨t1, p1, cell_below hb h1⟩, ⟨t2, p2, cell_below hb h2⟩⟩
  unfold Lib.TabIs World.var? at ht ⊢
  simp only [glob1, Option.bind_some] at ht ⊢
  rw [hb.block 1 (by omega)]
  exact ht
def digitsOf (n : Int) : ByteArray := ⟨(Lib.itoa n).toArray⟩
def StrPost (w : World) (s : ByteArray) (e : Ending) (w' : World) : Prop := e = .returned (.string s) ∧ Below w.heap.size w w'
theorem digits_calls (n : Int) (h0 : -9223372036854775808 ≤ n) (h1 : n ≤ 9223372036854775807) (w : World) (hE : Env w) : Calls Tryd.prog 83 #[.int .i64 n] w (StrPost w (digitsOf n)) := by
  have HF := Lib.hid (Tryd.strconv_FormatInt_10 n h0 h1 w hE.tab)
  clear h0 h1
  unfold StrPost digitsOf
  go_enter Tryd.func83, Tryd.ntmps83
  go_wp2_with fail
  refine HF.out.mono ?_
  rintro e w1 ⟨rfl, k, os, hw⟩
  have HB := Lib.hid (show Below w.heap.size w w1 by rw [hw]; exact Lib.below_grow w.heap.size w (Nat.le_refl _) k os)
  clear hw HF
  go_wp2_with fail
  go_ret
  exact ⟨rfl, HB.out⟩
def parseN (s : ByteArray) : Option Int :=
  match Lib.parseIntB 64 s.data.toList with
  | .ok v => if isNum v = true ∧ digitsOf v = s then some v else none
  | _ => none
theorem isNum_bounds {v : Int} (h : isNum v = true) : -9223372036854775808 ≤ v ∧ v ≤ 9223372036854775807 := by
  simp only [isNum, Bool.and_eq_true, decide_eq_true_eq] at h
  omega
theorem parseN_num {s : ByteArray} {v : Int} (h : parseN s = some v) : isNum v = true ∧ digitsOf v = s := by
  unfold parseN at h
  split at h
  · split at h
    · rename_i h1
      obtain rfl := Option.some.inj h
      exact h1
    · cases h
  · cases h
def NumPost (w : World) (v : Option Int) (e : Ending) (w' : World) : Prop := e = .returned (.tuple #[.int .i64 (v.getD 0), .bool v.isSome]) ∧ Below w.heap.size w w'
set_option maxHeartbeats 1000000 in
theorem numParse_calls (s : ByteArray) (hs : s.size ≤ 281474976710656) (w : World) (hE : Env w) : Calls Tryd.prog 87 #[.string s] w (NumPost w (parseN s)) := by
  unfold parseN NumPost
  cases hp : Lib.parseIntB 64 s.data.toList
  case ok v =>
    dsimp only
    have HF := Lib.hid (Tryd.strconv_ParseInt_10_at64_ok s (by omega) v hp w)
    have HE := Lib.hid hE
    by_cases hn : isNum v = true
    · have HD := Lib.hid (fun w1 (hb : Below w.heap.size w w1) => digits_calls v (isNum_bounds hn).1 (isNum_bounds hn).2 w1 (hE.below hb))
      have hnn : (decide (-4611686018427387904 ≤ v) && decide (v ≤ 4611686018427387903)) = true := hn
      by_cases he : digitsOf v = s
      · rw [if_pos (⟨hn, he⟩ : isNum v = true ∧ digitsOf v = s)]
        have hss := str_eq he
        generalize digitsOf v = ds at *
        clear hn he hE hp
        go_enter Tryd.func87, Tryd.ntmps87
        go_wp2_with fail
        refine HF.out.mono ?_
        rintro e w1 ⟨rfl, hw⟩
        have HB := Lib.hid (show Below w.heap.size w w1 by
          rcases hw with rfl | ⟨t, rfl⟩
          · exact below_refl _
          · exact Lib.bytesWorld_below w 5 t)
        have HD1 := Lib.hid (HD.out w1 HB.out)
        clear hw HF HD HE
        go_wp2_with (first | (go_at_call 82; refine (is_calls _ _).mono ?_; rintro e w' ⟨rfl, rfl⟩; rw [hnn]) | (go_at_call 83; refine HD1.out.mono ?_; rintro e w2 ⟨rfl, hb2⟩))
        have HB2 := Lib.hid (below_then HB.out hb2)
        clear hb2
        go_wp2_with fail
        go_ret2
        exact ⟨rfl, HB2.out⟩
      · rw [if_neg (show ¬ (isNum v = true ∧ digitsOf v = s) from fun h => he h.2)]
        have hss := str_ne he
        generalize digitsOf v = ds at *
        clear hn he hE hp
        go_enter Tryd.func87, Tryd.ntmps87
        go_wp2_with fail
        refine HF.out.mono ?_
        rintro e w1 ⟨rfl, hw⟩
        have HB := Lib.hid (show Below w.heap.size w w1 by
          rcases hw with rfl | ⟨t, rfl⟩
          · exact below_refl _
          · exact Lib.bytesWorld_below w 5 t)
        have HD1 := Lib.hid (HD.out w1 HB.out)
        clear hw HF HD HE
        go_wp2_with (first | (go_at_call 82; refine (is_calls _ _).mono ?_; rintro e w' ⟨rfl, rfl⟩; rw [hnn]) | (go_at_call 83; refine HD1.out.mono ?_; rintro e w2 ⟨rfl, hb2⟩))
        have HB2 := Lib.hid (below_then HB.out hb2)
        clear hb2
        go_wp2_with fail
        go_ret2
        exact ⟨rfl, HB2.out⟩
    · rw [if_neg (show ¬ (isNum v = true ∧ digitsOf v = s) from fun h => hn h.1)]
      have hnn : (decide (-4611686018427387904 ≤ v) && decide (v ≤ 4611686018427387903)) = false := by
        have : isNum v = false := by simpa using hn
        exact this
      clear hn hE hp
      go_enter Tryd.func87, Tryd.ntmps87
      go_wp2_with fail
      refine HF.out.mono ?_
      rintro e w1 ⟨rfl, hw⟩
      have HB := Lib.hid (show Below w.heap.size w w1 by
        rcases hw with rfl | ⟨t, rfl⟩
        · exact below_refl _
        · exact Lib.bytesWorld_below w 5 t)
      clear hw HF HE
      go_wp2_with (first | (go_at_call 82; refine (is_calls _ _).mono ?_; rintro e w' ⟨rfl, rfl⟩; rw [hnn]))
      go_ret2
      exact ⟨rfl, HB.out⟩
  case range =>
    dsimp only
    obtain ⟨te, pe, hv⟩ := hE.ran
    have HF := Lib.hid (Tryd.strconv_ParseInt_10_at64_range s hs hp (.iface te pe) w hv (.inr ⟨te, pe, rfl⟩))
    generalize Lib.intSat 64 s.data.toList = sat at *
    clear hp hE hv
    go_enter Tryd.func87, Tryd.ntmps87
    go_wp2_with fail
    refine HF.out.mono ?_
    rintro e w1 ⟨N, rfl, -, -, hb⟩
    have HB := Lib.hid hb
    clear hb HF
    go_wp2_with fail
    go_ret2
    exact ⟨rfl, HB.out⟩
  dsimp only
  obtain ⟨te, pe, hv⟩ := hE.syn
  have hF : Calls Tryd.prog 120 #[.string s, .int .i64 10, .int .i64 64] w fun e w' => ∃ N, e = .returned (.tuple #[.int .i64 0, .iface 177 (.pointer (some ⟨N, 0, none⟩))]) ∧ w.heap.size ≤ N ∧ w'.heap[N]? = some (.cells #[.string ⟨#[80, 97, 114, 115, 101, 73, 110, 116]⟩, .string s, .iface te pe] 188 (0, 0)) ∧ Below w.heap.size w w' :=
    Any.strconv_ParseInt_10_at64_syntax Tryd.laysC174 s hs hp (.iface te pe) w hv (.inr ⟨te, pe, rfl⟩)
  have HF := Lib.hid hF
  clear hp hE hv hF
  go_enter Tryd.func87, Tryd.ntmps87
  go_wp2_with fail
  refine HF.out.mono ?_
  rintro e w1 ⟨N, rfl, -, -, hb⟩
  have HB := Lib.hid hb
  clear hb HF
  go_wp2_with fail
  go_ret2
  exact ⟨rfl, HB.out⟩
end Go.Proofs.YtdilmfnijkjiaaaDoor.K
