import Derived.Test.YtdilmfnijkjiaaaDoorK40
set_option maxRecDepth 100000
set_option linter.unusedSimpArgs false
set_option linter.unusedVariables false
namespace Go.Proofs.YtdilmfnijkjiaaaDoor.K
open Go.RowKit
def Bq (w : World) (e : Ending) (w' : World) : Prop := ∃ b : Bool, e = .returned (.bool b) ∧ w = w'
set_option maxHeartbeats 1000000 in
theorem there3_calls (A : Option Addr) (m c : Nat) (n : Int) (w : World) : Calls Tryd.prog 121 #[.slice A m c, .int .i64 n] w (Bq w) := by
  by_cases h : 0 ≤ n
  · go_enter Tryd.func121, Tryd.ntmps121
    go_wp2
    go_ret
    exact ⟨_, rfl, rfl⟩
  · have h' : n < 0 := by omega
    go_enter Tryd.func121, Tryd.ntmps121
    go_wp2
    go_ret
    exact ⟨_, rfl, rfl⟩
set_option maxHeartbeats 1000000 in
theorem obj3_calls (A : Option Addr) (c : Nat) (ts : List Ty) (n : Int) (w : World) (hT : TySl w A c ts) (hr : n ≤ 9223372036854775807) : Calls Tryd.prog 122 #[.slice A ts.length c, .int .i64 n] w (Bq w) := by
  have HK := Lib.hid (kind3_calls A c ts n w hT hr)
  clear hT hr
  go_enter Tryd.func122, Tryd.ntmps122
  go_wp2_with fail
  refine HK.out.mono ?_
  rintro e w' ⟨rfl, rfl⟩
  generalize kOf (allOf ts) n = k at *
  clear HK
  go_wp2_with fail
  all_goals (go_ret; exact ⟨_, rfl, rfl⟩)
def Wk (w : World) (e : Ending) (w' : World) : Prop := ∃ n : Int, e = .returned (.int .i64 n) ∧ Below w.heap.size w w'
set_option maxHeartbeats 4000000 in
theorem wrong3_2 (A : Option Addr) (c : Nat) (ts : List Ty) (B : Option Addr) (d : Nat) (ps : List Int) (o : Int) (w : World) (hT : TySl w A c ts) (hP : IntSl w B d ps) (ho : o ≤ 9223372036854775807) :
    Calls Tryd.prog 98 #[.slice A ts.length c, .agg #[.int .i64 2, .slice B ps.length d, .int .i64 o]] w (Wk w) := by
  have hB0 := below_alloc' (o := .cells #[.int .i64 2, .slice B ps.length d, .int .i64 o] 87) (below_refl w)
  have HB0 := Lib.hid hB0
  have HT := Lib.hid (fun n (w : World) => there3_calls A ts.length c n w)
  have HO := Lib.hid (obj3_calls A c ts o _ (hT.below hB0) ho)
  have HP := Lib.hid (hP.below hB0)
  clear hT hP hB0 ho
  by_cases hl : (ps.length : Int) ≤ 12
  · by_cases h0 : 0 < ps.length
    · have h0' : 0 < (ps.length : Int) := by omega
      go_enter Tryd.func98, Tryd.ntmps98
      go_wp2_with fail
      go_loop [5] (fun t => ∃ k : Nat, k ≤ ps.length ∧ t = .int .i64 k) (fun t => ps.length - (intOf t).toNat)
      case atStart => exact ⟨0, Nat.zero_le _, rfl⟩
      case round =>
        obtain ⟨k, hk, rfl⟩ := hrel
        by_cases hlt : k < ps.length
        · obtain ⟨bd, rfl, hc⟩ := HP.out.getI (k : Int) (by omega) (by omega)
          rw [Int.toNat_natCast] at hc
          generalize ps.getD k 0 = x at *
          have HT1 := Lib.hid (HT.out x)
          go_wp2_with fail
          refine (HT1.out _).mono ?_
          rintro e w' ⟨b, rfl, rfl⟩
          clear HT1
          cases b
          · go_wp2_with fail
            go_ret
            exact ⟨_, rfl, HB0.out⟩
          · go_wp2_with fail
            go_round
            case rel => exact ⟨k + 1, by omega, by go_num⟩
            case measure => simp [intOf]; omega
        · go_wp2_with (first | (go_at_call 121; refine (HT.out _ _).mono ?_; rintro e w' ⟨b, rfl, rfl⟩) | (go_at_call 122; refine HO.out.mono ?_; rintro e w' ⟨b', rfl, rfl⟩))
          all_goals (go_ret; exact ⟨_, rfl, HB0.out⟩)
    · have h0' : ¬ 0 < (ps.length : Int) := by omega
      obtain rfl : ps = [] := List.eq_nil_of_length_eq_zero (by omega)
      go_enter Tryd.func98, Tryd.ntmps98
      go_wp2_with fail
      go_loop [5] (fun t => ∃ k : Nat, k ≤ 0 ∧ t = .int .i64 k) (fun t => 0 - (intOf t).toNat)
      case atStart => exact ⟨0, Nat.zero_le _, rfl⟩
      case round =>
        obtain ⟨k, hk, rfl⟩ := hrel
        by_cases hlt : k < 0
        · omega
        · go_wp2_with (first | (go_at_call 121; refine (HT.out _ _).mono ?_; rintro e w' ⟨b, rfl, rfl⟩) | (go_at_call 122; refine HO.out.mono ?_; rintro e w' ⟨b', rfl, rfl⟩))
          all_goals (go_ret; exact ⟨_, rfl, HB0.out⟩)
  · go_enter Tryd.func98, Tryd.ntmps98
    go_wp2
    go_ret
    exact ⟨_, rfl, HB0.out⟩
set_option maxHeartbeats 4000000 in
theorem wrong3_3 (A : Option Addr) (c : Nat) (ts : List Ty) (B : Option Addr) (d : Nat) (ps : List Int) (o : Int) (w : World) (hT : TySl w A c ts) (hP : IntSl w B d ps) (ho : o ≤ 9223372036854775807) :
    Calls Tryd.prog 98 #[.slice A ts.length c, .agg #[.int .i64 3, .slice B ps.length d, .int .i64 o]] w (Wk w) := by
  have hB0 := below_alloc' (o := .cells #[.int .i64 3, .slice B ps.length d, .int .i64 o] 87) (below_refl w)
  have HB0 := Lib.hid hB0
  have HT := Lib.hid (fun n (w : World) => there3_calls A ts.length c n w)
  have HO := Lib.hid (obj3_calls A c ts o _ (hT.below hB0) ho)
  have HP := Lib.hid (hP.below hB0)
  clear hT hP hB0 ho
  by_cases hl : (ps.length : Int) ≤ 0
  · go_enter Tryd.func98, Tryd.ntmps98
    go_wp2_with fail
    go_loop [5] (fun t => ∃ k : Nat, k ≤ ps.length ∧ t = .int .i64 k) (fun t => ps.length - (intOf t).toNat)
    case atStart => exact ⟨0, Nat.zero_le _, rfl⟩
    case round =>
      obtain ⟨k, hk, rfl⟩ := hrel
      by_cases hlt : k < ps.length
      · omega
      · go_wp2_with (first | (go_at_call 121; refine (HT.out _ _).mono ?_; rintro e w' ⟨b, rfl, rfl⟩) | (go_at_call 122; refine HO.out.mono ?_; rintro e w' ⟨b', rfl, rfl⟩))
        all_goals (go_ret; exact ⟨_, rfl, HB0.out⟩)
  · go_enter Tryd.func98, Tryd.ntmps98
    go_wp2
    go_ret
    exact ⟨_, rfl, HB0.out⟩
set_option maxHeartbeats 4000000 in
theorem wrong3_4 (A : Option Addr) (c : Nat) (ts : List Ty) (B : Option Addr) (d : Nat) (ps : List Int) (o : Int) (w : World) (hT : TySl w A c ts) (hP : IntSl w B d ps) (ho : o ≤ 9223372036854775807) :
    Calls Tryd.prog 98 #[.slice A ts.length c, .agg #[.int .i64 4, .slice B ps.length d, .int .i64 o]] w (Wk w) := by
  have hB0 := below_alloc' (o := .cells #[.int .i64 4, .slice B ps.length d, .int .i64 o] 87) (below_refl w)
  have HB0 := Lib.hid hB0
  have HT := Lib.hid (fun n (w : World) => there3_calls A ts.length c n w)
  have HO := Lib.hid (obj3_calls A c ts o _ (hT.below hB0) ho)
  have HP := Lib.hid (hP.below hB0)
  clear hT hP hB0 ho
  by_cases hl : (ps.length : Int) ≤ 6
  · by_cases h0 : 0 < ps.length
    · have h0' : 0 < (ps.length : Int) := by omega
      go_enter Tryd.func98, Tryd.ntmps98
      go_wp2_with fail
      go_loop [5] (fun t => ∃ k : Nat, k ≤ ps.length ∧ t = .int .i64 k) (fun t => ps.length - (intOf t).toNat)
      case atStart => exact ⟨0, Nat.zero_le _, rfl⟩
      case round =>
        obtain ⟨k, hk, rfl⟩ := hrel
        by_cases hlt : k < ps.length
        · obtain ⟨bd, rfl, hc⟩ := HP.out.getI (k : Int) (by omega) (by omega)
          rw [Int.toNat_natCast] at hc
          generalize ps.getD k 0 = x at *
          have HT1 := Lib.hid (HT.out x)
          go_wp2_with fail
          refine (HT1.out _).mono ?_
          rintro e w' ⟨b, rfl, rfl⟩
          clear HT1
          cases b
          · go_wp2_with fail
            go_ret
            exact ⟨_, rfl, HB0.out⟩
          · go_wp2_with fail
            go_round
            case rel => exact ⟨k + 1, by omega, by go_num⟩
            case measure => simp [intOf]; omega
        · go_wp2_with (first | (go_at_call 121; refine (HT.out _ _).mono ?_; rintro e w' ⟨b, rfl, rfl⟩) | (go_at_call 122; refine HO.out.mono ?_; rintro e w' ⟨b', rfl, rfl⟩))
          all_goals (go_ret; exact ⟨_, rfl, HB0.out⟩)
    · have h0' : ¬ 0 < (ps.length : Int) := by omega
      obtain rfl : ps = [] := List.eq_nil_of_length_eq_zero (by omega)
      go_enter Tryd.func98, Tryd.ntmps98
      go_wp2_with fail
      go_loop [5] (fun t => ∃ k : Nat, k ≤ 0 ∧ t = .int .i64 k) (fun t => 0 - (intOf t).toNat)
      case atStart => exact ⟨0, Nat.zero_le _, rfl⟩
      case round =>
        obtain ⟨k, hk, rfl⟩ := hrel
        by_cases hlt : k < 0
        · omega
        · go_wp2_with (first | (go_at_call 121; refine (HT.out _ _).mono ?_; rintro e w' ⟨b, rfl, rfl⟩) | (go_at_call 122; refine HO.out.mono ?_; rintro e w' ⟨b', rfl, rfl⟩))
          all_goals (go_ret; exact ⟨_, rfl, HB0.out⟩)
  · go_enter Tryd.func98, Tryd.ntmps98
    go_wp2
    go_ret
    exact ⟨_, rfl, HB0.out⟩
set_option maxHeartbeats 4000000 in
theorem wrong3_5 (A : Option Addr) (c : Nat) (ts : List Ty) (B : Option Addr) (d : Nat) (ps : List Int) (o : Int) (w : World) (hT : TySl w A c ts) (hP : IntSl w B d ps) (ho : o ≤ 9223372036854775807) :
    Calls Tryd.prog 98 #[.slice A ts.length c, .agg #[.int .i64 5, .slice B ps.length d, .int .i64 o]] w (Wk w) := by
  have hB0 := below_alloc' (o := .cells #[.int .i64 5, .slice B ps.length d, .int .i64 o] 87) (below_refl w)
  have HB0 := Lib.hid hB0
  have HT := Lib.hid (fun n (w : World) => there3_calls A ts.length c n w)
  have HO := Lib.hid (obj3_calls A c ts o _ (hT.below hB0) ho)
  have HP := Lib.hid (hP.below hB0)
  clear hT hP hB0 ho
  by_cases hl : (ps.length : Int) ≤ 0
  · go_enter Tryd.func98, Tryd.ntmps98
    go_wp2_with fail
    go_loop [5] (fun t => ∃ k : Nat, k ≤ ps.length ∧ t = .int .i64 k) (fun t => ps.length - (intOf t).toNat)
    case atStart => exact ⟨0, Nat.zero_le _, rfl⟩
    case round =>
      obtain ⟨k, hk, rfl⟩ := hrel
      by_cases hlt : k < ps.length
      · omega
      · go_wp2_with (first | (go_at_call 121; refine (HT.out _ _).mono ?_; rintro e w' ⟨b, rfl, rfl⟩) | (go_at_call 122; refine HO.out.mono ?_; rintro e w' ⟨b', rfl, rfl⟩))
        all_goals (go_ret; exact ⟨_, rfl, HB0.out⟩)
  · go_enter Tryd.func98, Tryd.ntmps98
    go_wp2
    go_ret
    exact ⟨_, rfl, HB0.out⟩
set_option maxHeartbeats 1000000 in
theorem wrong3_calls (A : Option Addr) (c : Nat) (ts : List Ty) (kd : Int) (B : Option Addr) (d : Nat) (ps : List Int) (o : Int) (w : World) (hT : TySl w A c ts) (hP : IntSl w B d ps) (ho : o ≤ 9223372036854775807) :
    Calls Tryd.prog 98 #[.slice A ts.length c, .agg #[.int .i64 kd, .slice B ps.length d, .int .i64 o]] w (Wk w) := by
  by_cases h : kd < 2
  · have HB0 := Lib.hid (below_alloc' (o := .cells #[.int .i64 kd, .slice B ps.length d, .int .i64 o] 87) (below_refl w))
    clear hT hP ho
    go_enter Tryd.func98, Tryd.ntmps98
    go_wp2
    go_ret
    exact ⟨_, rfl, HB0.out⟩
  · by_cases h5 : 5 < kd
    · have HB0 := Lib.hid (below_alloc' (o := .cells #[.int .i64 kd, .slice B ps.length d, .int .i64 o] 87) (below_refl w))
      clear hT hP ho
      go_enter Tryd.func98, Tryd.ntmps98
      go_wp2
      go_ret
      exact ⟨_, rfl, HB0.out⟩
    · have hc : kd = 2 ∨ kd = 3 ∨ kd = 4 ∨ kd = 5 := by omega
      rcases hc with rfl | rfl | rfl | rfl
      · exact wrong3_2 A c ts B d ps o w hT hP ho
      · exact wrong3_3 A c ts B d ps o w hT hP ho
      · exact wrong3_4 A c ts B d ps o w hT hP ho
      · exact wrong3_5 A c ts B d ps o w hT hP ho
def Wk2 (w : World) (e : Ending) (w' : World) : Prop := ∃ i n : Int, e = .returned (.tuple #[.int .i64 i, .int .i64 n]) ∧ Below w.heap.size w w'
set_option maxHeartbeats 2000000 in
theorem right3_calls (A : Option Addr) (c : Nat) (ts : List Ty) (w : World) (hT : TySl w A c ts) (ho : ∀ t ∈ ts, t.of ≤ 9223372036854775807) :
    Calls Tryd.prog 61 #[.slice A ts.length c] w (Wk2 w) := by
  have HT := Lib.hid hT
  have HW := Lib.hid (fun kd B d ps o w => wrong3_calls A c ts kd B d ps o w)
  have HO := Lib.hid ho
  clear hT ho
  by_cases hl : (ts.length : Int) ≤ 60
  · go_enter Tryd.func61, Tryd.ntmps61
    go_wp2
    go_loopw [4, 5] (fun t t5 wr => ∃ k : Nat, k ≤ ts.length ∧ t = .int .i64 k ∧ Hid (Below w.heap.size w wr)) (fun t _ _ => ts.length - (intOf t).toNat)
    case atStart => exact ⟨0, Nat.zero_le _, rfl, Lib.hid (below_refl w)⟩
    case round =>
      obtain ⟨k, hk, rfl, HB⟩ := hrel
      by_cases hlt : k < ts.length
      · obtain ⟨ad, A', c', rfl, g0, g1, g2, g3⟩ := HT.out.get (k : Int) (by omega) (by omega)
        have hx : ts[k]? = some (tyAt ts k) := by unfold tyAt; rw [List.getD_eq_getElem?_getD, Int.toNat_natCast, List.getElem?_eq_getElem hlt]; rfl
        have hpl := HO.out _ (List.mem_of_getElem? hx)
        rw [Int.toNat_natCast] at g0 g1 g2
        have g0' := cell_below HB.out g0
        have g1' := cell_below HB.out g1
        have g2' := cell_below HB.out g2
        clear hx g0 g1 g2
        generalize tyAt ts k = x at *
        obtain ⟨xk, xp, xo⟩ := x
        have HC := Lib.hid (HW.out xk A' c' xp xo _ (HT.out.below HB.out) (g3.below HB.out) hpl)
        clear g3 hpl
        go_wp2_with fail
        refine HC.out.mono ?_
        rintro e w1 ⟨n, rfl, hb⟩
        have HB1 := Lib.hid (below_then HB.out hb)
        clear hb HC
        by_cases hn : n = 0
        · subst hn
          go_wp2_with fail
          go_roundw
          case rel => exact ⟨k + 1, by omega, by go_num, HB1⟩
          case measure => simp [intOf]; omega
        · go_wp2_with fail
          go_ret2
          exact ⟨_, _, rfl, HB1.out⟩
      · go_wp2
        go_ret2
        exact ⟨_, _, rfl, HB.out⟩
  · go_enter Tryd.func61, Tryd.ntmps61
    go_wp2
    go_ret2
    exact ⟨_, _, rfl, below_refl w⟩
end Go.Proofs.YtdilmfnijkjiaaaDoor.K
