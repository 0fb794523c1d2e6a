import Derived.Test.YtdilmfnijkjiaaaDoorK9
set_option maxRecDepth 100000
set_option linter.unusedSimpArgs false
set_option linter.unusedVariables false
namespace Go.Proofs.YtdilmfnijkjiaaaDoor.K
open Go.RowKit
def WrongPost (w : World) (ok : Bool) (e : Ending) (w' : World) : Prop := ∃ n : Int, e = .returned (.int .i64 n) ∧ (n = 0 ↔ ok = true) ∧ Below w.heap.size w w'
theorem IntSl.at_ {w : World} {A : Option Addr} {c : Nat} {xs : List Int} (h : IntSl w A c xs) (k : Nat) (hk : k < xs.length) : ∃ ad, A = some ad ∧ w.cell? (ad.add k) = some (.int .i64 xs[k]) := by
  cases A with
  | none => have := h.2.2.1 rfl; have := h.1; omega
  | some ad => exact ⟨ad, rfl, h.2.2.2 ad rfl k _ (List.getElem?_eq_getElem hk)⟩
theorem IntSl.nonneg {w : World} {ad : Addr} {c : Nat} {xs : List Int} (h : IntSl w (some ad) c xs) (k : Nat) (hk : k < xs.length) : w.cell? (ad.add k) = some (.int .i64 xs[k]) := h.2.2.2 ad rfl k _ (List.getElem?_eq_getElem hk)
set_option maxHeartbeats 400000 in
theorem wrong_kind (A : Option Addr) (c : Nat) (ts : List Ty) (kd : Int) (B : Option Addr) (d : Nat) (ps : List Int) (o : Int) (w : World) (hk : kd < 2 ∨ 5 < kd) :
    Calls Tryd.prog 107 #[.slice A ts.length c, tyV kd B ps.length d o] w (WrongPost w (tyOk ts ⟨kd, ps, o⟩)) := by
  have e : tyOk ts ⟨kd, ps, o⟩ = false := by
    rcases hk with h | h
    · have : decide (2 ≤ kd) = false := decide_eq_false (by omega)
      simp [tyOk, this]
    · have : decide (kd ≤ 5) = false := decide_eq_false (by omega)
      simp [tyOk, this]
  rw [e]
  have h2 : (kd == 2) = false := beq_eq_false_iff_ne.2 (by omega)
  have h3 : (kd == 3) = false := beq_eq_false_iff_ne.2 (by omega)
  have h4 : (kd == 4) = false := beq_eq_false_iff_ne.2 (by omega)
  have h5 : (kd == 5) = false := beq_eq_false_iff_ne.2 (by omega)
  clear e
  go_enter Tryd.func107, Tryd.ntmps107
  go_wp2
  go_ret
  exact ⟨6, rfl, by simp, below_alloc' (below_refl w)⟩
set_option maxHeartbeats 1000000 in
theorem wrong_2 (A : Option Addr) (c : Nat) (ts : List Ty) (B : Option Addr) (d : Nat) (ps : List Int) (o : Int) (w : World) (hT : TySl w A c ts) (hm : ts.length ≤ 9223372036854775800) (hP : IntSl w B d ps) (hp : ps.length ≤ 9223372036854775800) :
    Calls Tryd.prog 107 #[.slice A ts.length c, tyV 2 B ps.length d o] w (WrongPost w (tyOk ts ⟨2, ps, o⟩)) := by
  have HT := Lib.hid (fun n (w : World) => there_calls A ts.length c n w hm)
  have HO := Lib.hid (fun n w (h : TySl w A c ts) => obj_calls A c ts n w h hm)
  by_cases hl : (ps.length : Int) ≤ 12
  · have HP := Lib.hid hP
    have HS := Lib.hid hT
    clear hP hT
    go_enter Tryd.func107, Tryd.ntmps107
    go_wp2_with fail
    go_loop [29] (fun t => ∃ k : Nat, k ≤ ps.length ∧ t = .int .i64 k ∧ Hid (∀ j x, j < k → ps[j]? = some x → thereB ts.length x = true)) (fun t => ps.length - (intOf t).toNat)
    case atStart => exact ⟨0, Nat.zero_le _, rfl, Lib.hid (fun j x h => by omega)⟩
    case round =>
      obtain ⟨k, hk, rfl, HJ⟩ := hrel
      by_cases hlt : k < ps.length
      · obtain ⟨ad, rfl, hcell⟩ := HP.out.at_ k hlt
        have hx : ps[k]? = some ps[k] := List.getElem?_eq_getElem hlt
        have HX := Lib.hid hx
        clear hx
        generalize ps[k] = x at hcell HX
        have hcell := fun o => cell_below (below_alloc' (o := o) (below_refl w)) hcell
        by_cases ht : thereB ts.length x = true
        · have HT2 := Lib.hid (HT.out x)
          rw [ht] at HT2
          have HD := Lib.hid ht
          clear ht
          go_wp2_with (go_at_call 124; refine (HT2.out _).mono ?_; rintro e w' ⟨rfl, rfl⟩)
          go_round
          case rel => exact ⟨k + 1, by omega, by go_num, Lib.hid (fun j y hj hy => by
            rcases Nat.lt_or_ge j k with h | h
            · exact HJ.out j y h hy
            · have : j = k := by omega
              subst this
              rw [HX.out] at hy
              obtain rfl := Option.some.inj hy
              exact HD.out)⟩
          case measure => simp [intOf]; omega
        · have ht' : thereB ts.length x = false := by simpa using ht
          have HT2 := Lib.hid (HT.out x)
          rw [ht'] at HT2
          have HE := Lib.hid (show tyOk ts ⟨2, ps, o⟩ = false by
            have : ps.all (thereB ts.length) = false := by
              rw [List.all_eq_false]
              exact ⟨x, List.mem_of_getElem? HX.out, by simp [ht']⟩
            simp [tyOk, this])
          clear ht ht'
          go_wp2_with (go_at_call 124; refine (HT2.out _).mono ?_; rintro e w' ⟨rfl, rfl⟩)
          go_ret
          exact ⟨7, rfl, by rw [HE.out]; simp, below_alloc' (below_refl w)⟩
      · have HE := Lib.hid (show ps.all (thereB ts.length) = true by
          rw [List.all_eq_true]
          intro x hx
          obtain ⟨j, hj⟩ := List.getElem?_of_mem hx
          exact HJ.out j x (by have := (List.getElem?_eq_some_iff.1 hj).1; omega) hj)
        have HB := Lib.hid (below_alloc' (o := .cells #[.int .i64 2, .slice B ps.length d, .int .i64 o] 87) (below_refl w))
        by_cases ho : o = 0
        · subst ho
          have ht : thereB ts.length 0 = true := by simp [thereB]; omega
          have HT2 := Lib.hid (HT.out 0)
          rw [ht] at HT2
          have HF := Lib.hid (show tyOk ts ⟨2, ps, 0⟩ = true by have h1 := HE.out; have h2 := hl; simp [tyOk, mostOf, h1, h2, ht])
          clear ht
          go_wp2_with (first | (go_at_call 124; refine (HT2.out _).mono ?_; rintro e w' ⟨rfl, rfl⟩) | (go_at_call 125; refine (HO.out _ _ (HS.out.below HB.out)).mono ?_; rintro e w' ⟨rfl, rfl⟩))
          go_ret
          exact ⟨0, rfl, by rw [HF.out]; simp, HB.out⟩
        · have HF := Lib.hid (show tyOk ts ⟨2, ps, o⟩ = false by simp [tyOk, ho])
          have ho' : (o != 0) = true := bne_iff_ne.2 ho
          go_wp2
          go_ret
          exact ⟨7, rfl, by rw [HF.out]; simp, HB.out⟩
  · have HF := Lib.hid (show tyOk ts ⟨2, ps, o⟩ = false by have h1 : decide ((ps.length : Int) ≤ mostOf 2) = false := decide_eq_false hl; simp only [tyOk, h1, Bool.and_false, Bool.false_and])
    clear hP hT
    go_enter Tryd.func107, Tryd.ntmps107
    go_wp2
    go_ret
    exact ⟨5, rfl, by rw [HF.out]; simp, below_alloc' (below_refl w)⟩
set_option maxHeartbeats 1000000 in
theorem wrong_3 (A : Option Addr) (c : Nat) (ts : List Ty) (B : Option Addr) (d : Nat) (ps : List Int) (o : Int) (w : World) (hT : TySl w A c ts) (hm : ts.length ≤ 9223372036854775800) (hP : IntSl w B d ps) (hp : ps.length ≤ 9223372036854775800) :
    Calls Tryd.prog 107 #[.slice A ts.length c, tyV 3 B ps.length d o] w (WrongPost w (tyOk ts ⟨3, ps, o⟩)) := by
  have HT := Lib.hid (fun n (w : World) => there_calls A ts.length c n w hm)
  have HO := Lib.hid (fun n w (h : TySl w A c ts) => obj_calls A c ts n w h hm)
  by_cases hl : (ps.length : Int) ≤ 0
  · have HP := Lib.hid hP
    have HS := Lib.hid hT
    clear hP hT
    go_enter Tryd.func107, Tryd.ntmps107
    go_wp2_with fail
    go_loop [29] (fun t => ∃ k : Nat, k ≤ ps.length ∧ t = .int .i64 k ∧ Hid (∀ j x, j < k → ps[j]? = some x → thereB ts.length x = true)) (fun t => ps.length - (intOf t).toNat)
    case atStart => exact ⟨0, Nat.zero_le _, rfl, Lib.hid (fun j x h => by omega)⟩
    case round =>
      obtain ⟨k, hk, rfl, HJ⟩ := hrel
      by_cases hlt : k < ps.length
      · omega
      · have HE := Lib.hid (show ps.all (thereB ts.length) = true by
          rw [List.all_eq_true]
          intro x hx
          obtain ⟨j, hj⟩ := List.getElem?_of_mem hx
          exact HJ.out j x (by have := (List.getElem?_eq_some_iff.1 hj).1; omega) hj)
        have HB := Lib.hid (below_alloc' (o := .cells #[.int .i64 3, .slice B ps.length d, .int .i64 o] 87) (below_refl w))
        cases ht : thereB ts.length o with
        | true =>
          have HT2 := Lib.hid (HT.out o)
          rw [ht] at HT2
          have HF := Lib.hid (show tyOk ts ⟨3, ps, o⟩ = true by have h3 : ps = [] := List.eq_nil_of_length_eq_zero (by omega); simp [tyOk, mostOf, h3, ht])
          clear ht
          go_wp2_with (first | (go_at_call 124; refine (HT2.out _).mono ?_; rintro e w' ⟨rfl, rfl⟩) | (go_at_call 125; refine (HO.out _ _ (HS.out.below HB.out)).mono ?_; rintro e w' ⟨rfl, rfl⟩))
          go_ret
          exact ⟨0, rfl, by rw [HF.out]; simp, HB.out⟩
        | false =>
          have HT2 := Lib.hid (HT.out o)
          rw [ht] at HT2
          have HF := Lib.hid (show tyOk ts ⟨3, ps, o⟩ = false by simp [tyOk, ht])
          clear ht
          go_wp2_with (first | (go_at_call 124; refine (HT2.out _).mono ?_; rintro e w' ⟨rfl, rfl⟩) | (go_at_call 125; refine (HO.out _ _ (HS.out.below HB.out)).mono ?_; rintro e w' ⟨rfl, rfl⟩))
          go_ret
          exact ⟨7, rfl, by rw [HF.out]; simp, HB.out⟩
  · have HF := Lib.hid (show tyOk ts ⟨3, ps, o⟩ = false by have h1 : decide ((ps.length : Int) ≤ mostOf 3) = false := decide_eq_false hl; simp only [tyOk, h1, Bool.and_false, Bool.false_and])
    clear hP hT
    go_enter Tryd.func107, Tryd.ntmps107
    go_wp2
    go_ret
    exact ⟨7, rfl, by rw [HF.out]; simp, below_alloc' (below_refl w)⟩
set_option maxHeartbeats 1000000 in
theorem wrong_4 (A : Option Addr) (c : Nat) (ts : List Ty) (B : Option Addr) (d : Nat) (ps : List Int) (o : Int) (w : World) (hT : TySl w A c ts) (hm : ts.length ≤ 9223372036854775800) (hP : IntSl w B d ps) (hp : ps.length ≤ 9223372036854775800) :
    Calls Tryd.prog 107 #[.slice A ts.length c, tyV 4 B ps.length d o] w (WrongPost w (tyOk ts ⟨4, ps, o⟩)) := by
  have HT := Lib.hid (fun n (w : World) => there_calls A ts.length c n w hm)
  have HO := Lib.hid (fun n w (h : TySl w A c ts) => obj_calls A c ts n w h hm)
  by_cases hl : (ps.length : Int) ≤ 6
  · have HP := Lib.hid hP
    have HS := Lib.hid hT
    clear hP hT
    go_enter Tryd.func107, Tryd.ntmps107
    go_wp2_with fail
    go_loop [29] (fun t => ∃ k : Nat, k ≤ ps.length ∧ t = .int .i64 k ∧ Hid (∀ j x, j < k → ps[j]? = some x → thereB ts.length x = true)) (fun t => ps.length - (intOf t).toNat)
    case atStart => exact ⟨0, Nat.zero_le _, rfl, Lib.hid (fun j x h => by omega)⟩
    case round =>
      obtain ⟨k, hk, rfl, HJ⟩ := hrel
      by_cases hlt : k < ps.length
      · obtain ⟨ad, rfl, hcell⟩ := HP.out.at_ k hlt
        have hx : ps[k]? = some ps[k] := List.getElem?_eq_getElem hlt
        have HX := Lib.hid hx
        clear hx
        generalize ps[k] = x at hcell HX
        have hcell := fun o => cell_below (below_alloc' (o := o) (below_refl w)) hcell
        by_cases ht : thereB ts.length x = true
        · have HT2 := Lib.hid (HT.out x)
          rw [ht] at HT2
          have HD := Lib.hid ht
          clear ht
          go_wp2_with (go_at_call 124; refine (HT2.out _).mono ?_; rintro e w' ⟨rfl, rfl⟩)
          go_round
          case rel => exact ⟨k + 1, by omega, by go_num, Lib.hid (fun j y hj hy => by
            rcases Nat.lt_or_ge j k with h | h
            · exact HJ.out j y h hy
            · have : j = k := by omega
              subst this
              rw [HX.out] at hy
              obtain rfl := Option.some.inj hy
              exact HD.out)⟩
          case measure => simp [intOf]; omega
        · have ht' : thereB ts.length x = false := by simpa using ht
          have HT2 := Lib.hid (HT.out x)
          rw [ht'] at HT2
          have HE := Lib.hid (show tyOk ts ⟨4, ps, o⟩ = false by
            have : ps.all (thereB ts.length) = false := by
              rw [List.all_eq_false]
              exact ⟨x, List.mem_of_getElem? HX.out, by simp [ht']⟩
            simp [tyOk, this])
          clear ht ht'
          go_wp2_with (go_at_call 124; refine (HT2.out _).mono ?_; rintro e w' ⟨rfl, rfl⟩)
          go_ret
          exact ⟨7, rfl, by rw [HE.out]; simp, below_alloc' (below_refl w)⟩
      · have HE := Lib.hid (show ps.all (thereB ts.length) = true by
          rw [List.all_eq_true]
          intro x hx
          obtain ⟨j, hj⟩ := List.getElem?_of_mem hx
          exact HJ.out j x (by have := (List.getElem?_eq_some_iff.1 hj).1; omega) hj)
        have HB := Lib.hid (below_alloc' (o := .cells #[.int .i64 4, .slice B ps.length d, .int .i64 o] 87) (below_refl w))
        cases ht : thereB ts.length o with
        | true =>
          have HT2 := Lib.hid (HT.out o)
          rw [ht] at HT2
          have HF := Lib.hid (show tyOk ts ⟨4, ps, o⟩ = true by have h1 := HE.out; have h2 := hl; simp [tyOk, mostOf, h1, h2, ht])
          clear ht
          go_wp2_with (first | (go_at_call 124; refine (HT2.out _).mono ?_; rintro e w' ⟨rfl, rfl⟩) | (go_at_call 125; refine (HO.out _ _ (HS.out.below HB.out)).mono ?_; rintro e w' ⟨rfl, rfl⟩))
          go_ret
          exact ⟨0, rfl, by rw [HF.out]; simp, HB.out⟩
        | false =>
          have HT2 := Lib.hid (HT.out o)
          rw [ht] at HT2
          have HF := Lib.hid (show tyOk ts ⟨4, ps, o⟩ = false by simp [tyOk, ht])
          clear ht
          go_wp2_with (first | (go_at_call 124; refine (HT2.out _).mono ?_; rintro e w' ⟨rfl, rfl⟩) | (go_at_call 125; refine (HO.out _ _ (HS.out.below HB.out)).mono ?_; rintro e w' ⟨rfl, rfl⟩))
          go_ret
          exact ⟨7, rfl, by rw [HF.out]; simp, HB.out⟩
  · have HF := Lib.hid (show tyOk ts ⟨4, ps, o⟩ = false by have h1 : decide ((ps.length : Int) ≤ mostOf 4) = false := decide_eq_false hl; simp only [tyOk, h1, Bool.and_false, Bool.false_and])
    clear hP hT
    go_enter Tryd.func107, Tryd.ntmps107
    go_wp2
    go_ret
    exact ⟨5, rfl, by rw [HF.out]; simp, below_alloc' (below_refl w)⟩
set_option maxHeartbeats 1000000 in
theorem wrong_5 (A : Option Addr) (c : Nat) (ts : List Ty) (B : Option Addr) (d : Nat) (ps : List Int) (o : Int) (w : World) (hT : TySl w A c ts) (hm : ts.length ≤ 9223372036854775800) (hP : IntSl w B d ps) (hp : ps.length ≤ 9223372036854775800) :
    Calls Tryd.prog 107 #[.slice A ts.length c, tyV 5 B ps.length d o] w (WrongPost w (tyOk ts ⟨5, ps, o⟩)) := by
  have HT := Lib.hid (fun n (w : World) => there_calls A ts.length c n w hm)
  have HO := Lib.hid (fun n w (h : TySl w A c ts) => obj_calls A c ts n w h hm)
  by_cases hl : (ps.length : Int) ≤ 0
  · have HP := Lib.hid hP
    have HS := Lib.hid hT
    clear hP hT
    go_enter Tryd.func107, Tryd.ntmps107
    go_wp2_with fail
    go_loop [29] (fun t => ∃ k : Nat, k ≤ ps.length ∧ t = .int .i64 k ∧ Hid (∀ j x, j < k → ps[j]? = some x → thereB ts.length x = true)) (fun t => ps.length - (intOf t).toNat)
    case atStart => exact ⟨0, Nat.zero_le _, rfl, Lib.hid (fun j x h => by omega)⟩
    case round =>
      obtain ⟨k, hk, rfl, HJ⟩ := hrel
      by_cases hlt : k < ps.length
      · omega
      · have HE := Lib.hid (show ps.all (thereB ts.length) = true by
          rw [List.all_eq_true]
          intro x hx
          obtain ⟨j, hj⟩ := List.getElem?_of_mem hx
          exact HJ.out j x (by have := (List.getElem?_eq_some_iff.1 hj).1; omega) hj)
        have HB := Lib.hid (below_alloc' (o := .cells #[.int .i64 5, .slice B ps.length d, .int .i64 o] 87) (below_refl w))
        cases ho : objB ts o with
        | true =>
          have ht : thereB ts.length o = true := by simp [objB] at ho; exact ho.1.1.2
          have HT2 := Lib.hid (HT.out o)
          have HO2 := Lib.hid (HO.out o)
          rw [ht] at HT2
          rw [ho] at HO2
          have HF := Lib.hid (show tyOk ts ⟨5, ps, o⟩ = true by have h3 : ps = [] := List.eq_nil_of_length_eq_zero (by omega); simp [tyOk, mostOf, h3, ht, ho])
          clear ht ho
          go_wp2_with (first | (go_at_call 124; refine (HT2.out _).mono ?_; rintro e w' ⟨rfl, rfl⟩) | (go_at_call 125; refine (HO2.out _ (HS.out.below HB.out)).mono ?_; rintro e w' ⟨rfl, rfl⟩))
          go_ret
          exact ⟨0, rfl, by rw [HF.out]; simp, HB.out⟩
        | false =>
          have HO2 := Lib.hid (HO.out o)
          rw [ho] at HO2
          have HF := Lib.hid (show tyOk ts ⟨5, ps, o⟩ = false by simp [tyOk, ho])
          clear ho
          go_wp2_with (first | (go_at_call 124; refine (HT.out _ _).mono ?_; rintro e w' ⟨rfl, rfl⟩) | (go_at_call 125; refine (HO2.out _ (HS.out.below HB.out)).mono ?_; rintro e w' ⟨rfl, rfl⟩))
          go_ret
          exact ⟨7, rfl, by rw [HF.out]; simp, HB.out⟩
  · have HF := Lib.hid (show tyOk ts ⟨5, ps, o⟩ = false by have h1 : decide ((ps.length : Int) ≤ mostOf 5) = false := decide_eq_false hl; simp only [tyOk, h1, Bool.and_false, Bool.false_and])
    clear hP hT
    go_enter Tryd.func107, Tryd.ntmps107
    go_wp2
    go_ret
    exact ⟨7, rfl, by rw [HF.out]; simp, below_alloc' (below_refl w)⟩

theorem wrong_calls (A : Option Addr) (c : Nat) (ts : List Ty) (kd : Int) (B : Option Addr) (d : Nat) (ps : List Int) (o : Int) (w : World) (hT : TySl w A c ts) (hm : ts.length ≤ 9223372036854775800) (hP : IntSl w B d ps) (hp : ps.length ≤ 9223372036854775800) :
    Calls Tryd.prog 107 #[.slice A ts.length c, tyV kd B ps.length d o] w (WrongPost w (tyOk ts ⟨kd, ps, o⟩)) := by
  by_cases h : kd < 2 ∨ 5 < kd
  · exact wrong_kind A c ts kd B d ps o w h
  · have hc : kd = 2 ∨ kd = 3 ∨ kd = 4 ∨ kd = 5 := by omega
    rcases hc with rfl | rfl | rfl | rfl
    · exact wrong_2 A c ts B d ps o w hT hm hP hp
    · exact wrong_3 A c ts B d ps o w hT hm hP hp
    · exact wrong_4 A c ts B d ps o w hT hm hP hp
    · exact wrong_5 A c ts B d ps o w hT hm hP hp
/-- May this list of types be? -/
def tysOk (ts : List Ty) : Prop := ts.length ≤ 60 ∧ ∀ t ∈ ts, tyOk ts t = true
def RightPost (w : World) (ts : List Ty) (e : Ending) (w' : World) : Prop := ∃ i n : Int, e = .returned (.tuple #[.int .i64 i, .int .i64 n]) ∧ (n = 0 ↔ tysOk ts) ∧ Below w.heap.size w w'
set_option maxHeartbeats 1000000 in
theorem tright_calls (A : Option Addr) (c : Nat) (ts : List Ty) (w : World) (hT : TySl w A c ts) (hm : ts.length ≤ 9223372036854775800) (hp : ∀ t ∈ ts, t.parts.length ≤ 9223372036854775800) :
    Calls Tryd.prog 68 #[.slice A ts.length c] w (RightPost w ts) := by
  by_cases hl : ts.length ≤ 60
  · have HT := Lib.hid hT
    have HW := Lib.hid (fun kd B d ps o w => wrong_calls A c ts kd B d ps o w)
    have HP := Lib.hid hp
    clear hT hp
    go_enter Tryd.func68, Tryd.ntmps68
    go_wp2
    go_loopw [12] (fun t wr => ∃ k : Nat, k ≤ ts.length ∧ t = .int .i64 k ∧ Hid (∀ j x, j < k → ts[j]? = some x → tyOk ts x = true) ∧ Hid (Below w.heap.size w wr)) (fun t _ => ts.length - (intOf t).toNat)
    case atStart => exact ⟨0, Nat.zero_le _, rfl, Lib.hid (fun j x h => by omega), Lib.hid (below_refl w)⟩
    case round =>
      obtain ⟨k, hk, rfl, HJ, HB⟩ := hrel
      by_cases hlt : k < ts.length
      · obtain ⟨ad, A', c', rfl, g0, g1, g2, g3⟩ := HT.out.get (k : Int) (by omega) (by omega)
        have hx : ts[k]? = some (tyAt ts k) := by unfold tyAt; rw [List.getD_eq_getElem?_getD, Int.toNat_natCast, List.getElem?_eq_getElem hlt]; rfl
        have hpl := HP.out _ (List.mem_of_getElem? hx)
        have HX := Lib.hid hx
        rw [Int.toNat_natCast] at g0 g1 g2
        have g0' := cell_below HB.out g0
        have g1' := cell_below HB.out g1
        have g2' := cell_below HB.out g2
        clear hx g0 g1 g2
        generalize tyAt ts k = x at *
        obtain ⟨xk, xp, xo⟩ := x
        have HC := Lib.hid (HW.out xk A' c' xp xo _ (HT.out.below (below_alloc' (o := .cells #[.int .i64 xk, .slice A' xp.length c', .int .i64 xo] 87) HB.out)) hm (g3.below (below_alloc' (o := .cells #[.int .i64 xk, .slice A' xp.length c', .int .i64 xo] 87) HB.out)) hpl)
        clear g3 hpl
        go_wp2_with fail
        refine HC.out.mono ?_
        rintro e w1 ⟨n, rfl, hn, hb⟩
        have HB1 := Lib.hid (below_then (below_alloc' (o := .cells #[.int .i64 xk, .slice A' xp.length c', .int .i64 xo] 87) HB.out) hb)
        have HN := Lib.hid hn
        clear hn hb
        by_cases h0 : n = 0
        · subst h0
          go_wp2
          go_roundw
          case rel => exact ⟨k + 1, by omega, by go_num, Lib.hid (fun j y hj hy => by
            rcases Nat.lt_or_ge j k with h | h
            · exact HJ.out j y h hy
            · have : j = k := by omega
              subst this
              rw [HX.out] at hy
              obtain rfl := Option.some.inj hy
              exact HN.out.1 (by simp)), HB1⟩
          case measure => simp [intOf]; omega
        · have h0' : (n != 0) = true := bne_iff_ne.2 h0
          have HM := Lib.hid h0
          clear h0
          go_wp2
          go_ret2
          exact ⟨k, n, rfl, ⟨fun h => absurd h HM.out, fun h => HN.out.2 (h.2 _ (List.mem_of_getElem? HX.out))⟩, HB1.out⟩
      · go_wp2
        go_ret2
        exact ⟨0, 0, rfl, ⟨fun _ => ⟨hl, fun t ht => by
          obtain ⟨j, hj⟩ := List.getElem?_of_mem ht
          exact HJ.out j t (by have := (List.getElem?_eq_some_iff.1 hj).1; omega) hj⟩, fun _ => rfl⟩, HB.out⟩
  · have HL := Lib.hid hl
    go_enter Tryd.func68, Tryd.ntmps68
    go_wp2
    go_ret2
    exact ⟨0, 5, rfl, ⟨fun h => by omega, fun h => absurd h.1 HL.out⟩, below_refl w⟩
end Go.Proofs.YtdilmfnijkjiaaaDoor.K
