import Derived.Test.YtdilmfnijkjiaaaDoorK67
import Derived.Lib.SlBytesRow
set_option maxRecDepth 100000
set_option linter.unusedSimpArgs false
set_option linter.unusedVariables false
namespace Go.Proofs.YtdilmfnijkjiaaaDoor.K
open Go.RowKit
theorem conv_one (w : World) (x : Nat) (hx : x < 256) : (convert 133 9 (.slice (some ⟨w.heap.size, 0, none⟩) 1 1)).run Tryd.prog (w.alloc (.cells #[.int .u8 (x : Int)] 5)) = .ok (.string ⟨#[UInt8.ofNat x]⟩) (w.alloc (.cells #[.int .u8 (x : Int)] 5)) := by
  refine Lib.run_convert_whole (P := Tryd.prog) (w.alloc (.cells #[.int .u8 (x : Int)] 5)) 133 5 9 Tryd.underlying133 Tryd.underlying5 Tryd.underlying9 w.heap.size 0 ⟨#[UInt8.ofNat x]⟩ ?_ 1
  intro i hi
  have hi1 : i < 1 := hi
  obtain rfl : i = 0 := by omega
  rw [cell_of_row _ _ _ _ _ _ (heap_alloc_new w _)]
  show some (Value.int .u8 (x : Int)) = some (.int .u8 ((UInt8.ofNat x).toNat : Int))
  rw [UInt8.toNat_ofNat_of_lt' (by simpa using hx)]
theorem conv_dig (w : World) (m : Nat) : (convert 133 9 (.slice (some ⟨w.heap.size, 0, none⟩) 1 1)).run Tryd.prog (w.alloc (.cells #[.int .u8 (48 + (m : Int) % 10)] 5)) = .ok (.string ⟨#[48 + UInt8.ofNat (m % 10)]⟩) (w.alloc (.cells #[.int .u8 (48 + (m : Int) % 10)] 5)) := by
  have h := conv_one w (48 + m % 10) (by omega)
  have e : ((48 + m % 10 : Nat) : Int) = 48 + (m : Int) % 10 := by omega
  rw [e, UInt8.ofNat_add] at h
  exact h
theorem is1_calls (n : Int) (w : World) : Calls Tryd.prog 84 #[.int .i64 n] w fun e w' => e = .returned (.bool (isNum n)) ∧ w = w' := by
  unfold isNum
  by_cases h0 : (-4611686018427387904 : Int) ≤ n
  · go_enter Tryd.func84, Tryd.ntmps84
    go_wp2
    go_ret
    exact ⟨by simp [h0], rfl⟩
  · go_enter Tryd.func84, Tryd.ntmps84
    go_wp2
    go_ret
    exact ⟨by rw [decide_eq_false (show ¬ (-4611686018427387904 : Int) ≤ n by omega)]; rfl, rfl⟩
/-- The digits of a number, as a string. -/
def decS (m : Nat) : ByteArray := ⟨(Lib.decDigits m).toArray⟩
def preS (u : Nat) : ByteArray := if u = 0 then ⟨#[]⟩ else decS u
theorem mk_append (a b : Array UInt8) : (⟨a⟩ : ByteArray) ++ ⟨b⟩ = ⟨a ++ b⟩ := by
  apply ByteArray.ext
  simp
theorem decS_step (m : Nat) : decS m = preS (m / 10) ++ ⟨#[48 + UInt8.ofNat (m % 10)]⟩ := by
  unfold preS decS
  by_cases h : m < 10
  · rw [if_pos (by omega), mk_append]
    unfold Lib.decDigits
    rw [dif_pos h]
    have : m % 10 = m := by omega
    rw [this, UInt8.ofNat_add]
    rfl
  · rw [if_neg (by omega), mk_append]
    conv => lhs; unfold Lib.decDigits
    rw [dif_neg h, UInt8.ofNat_add]
    simp
theorem decS_size {m : Nat} (h : m ≤ 4611686018427387904) : (decS m).size ≤ 21 := by
  have h1 := Lib.itoa_length_le (m : Int) (by omega) (by omega)
  rw [Lib.itoa_nonneg] at h1
  exact h1
theorem digitsOf_nat (m : Nat) : digitsOf (m : Int) = decS m := by unfold digitsOf decS; rw [Lib.itoa_nonneg]
theorem digitsOf_neg (m : Nat) (h : 1 ≤ m) : digitsOf (-(m : Int)) = ⟨#[45]⟩ ++ decS m := by
  unfold digitsOf decS
  rw [Lib.itoa_neg m h, mk_append]
  simp
theorem empty_append (s : ByteArray) : (⟨#[]⟩ : ByteArray) ++ s = s := by
  obtain ⟨a⟩ := s
  rw [mk_append]; simp
theorem u64_wrap (x : Int) : IntKind.u64.wrap x = x % 18446744073709551616 := by first | rfl | simp [IntKind.wrap] 
theorem neg_neg64 {m : Nat} (h : m ≤ 4611686018427387904) : IntKind.u64.wrap (-IntKind.u64.wrap (-(m : Int))) = (m : Int) := by
  rw [u64_wrap, u64_wrap]; omega
structure Dig (m u : Nat) (D : ByteArray) : Prop where
  eq : decS m = preS u ++ D
theorem Dig.start (m : Nat) : Dig m (m / 10) ⟨#[48 + UInt8.ofNat (m % 10)]⟩ := ⟨decS_step m⟩
theorem Dig.next {m u : Nat} {D : ByteArray} (h : Dig m u D) (hu : ¬ u = 0) : Dig m (u / 10) (⟨#[48 + UInt8.ofNat (u % 10)]⟩ ++ D) := ⟨by
  rw [h.eq, preS, if_neg hu, decS_step u, ByteArray.append_assoc]⟩
theorem Dig.done {m : Nat} {D : ByteArray} (h : Dig m 0 D) : decS m = D := by
  rw [h.eq, preS, if_pos rfl, empty_append]
theorem Dig.size {m u : Nat} {D : ByteArray} (h : Dig m u D) (hm : m ≤ 4611686018427387904) : D.size ≤ 21 := by
  have h1 := decS_size hm
  rw [h.eq, ByteArray.size_append] at h1
  omega

set_option maxHeartbeats 2000000 in
theorem digits_pos (m : Nat) (h : m ≤ 4611686018427387904) (w : World) : Calls Tryd.prog 85 #[.int .i64 (m : Int)] w (StrPost w (digitsOf (m : Int))) := by
  have hm0 : ¬ (m : Int) < 0 := by omega
  rw [digitsOf_nat m]
  skip
  have hc := conv_dig w m
  have HH := Lib.hid h
  have HB0 := Lib.hid (below_alloc' (o := .cells #[.int .u8 (48 + (m : Int) % 10)] 5) (below_refl w))
  have HD0 := Lib.hid (Dig.start m)
  go_enter Tryd.func85, Tryd.ntmps85
  go_wp2_with fail
  clear hc
  skip
  generalize w.alloc (.cells #[.int .u8 (48 + (m : Int) % 10)] 5) = w1 at *
  go_loopw [3, 4] (fun t s wr => ∃ (u : Nat) (D : ByteArray), t = .int .u64 (u : Int) ∧ s = .string D ∧ Hid (u ≤ m) ∧ Hid (Dig m u D) ∧ Hid (Below w.heap.size w wr)) (fun t _ _ => (intOf t).toNat)
  case atStart => exact ⟨m / 10, _, by go_num, rfl, Lib.hid (by omega), HD0, HB0⟩
  case round =>
    obtain ⟨u, D, rfl, rfl, HU, HD, HB⟩ := hrel
    by_cases hu : u = 0
    · subst hu
      have HE := Lib.hid HD.out.done
      have hsz : ¬ (9223372036854775807 : Nat) < 1 + D.size := by have := HD.out.size HH.out; omega
      clear HD
      go_wp2_with fail
      go_ret
      exact ⟨by rw [HE.out]; rfl, HB.out⟩
    · have hu0 : (0 : Int) < (u : Int) := by omega
      have hc := conv_dig wr u
      have HBn := Lib.hid (below_alloc' (o := .cells #[.int .u8 (48 + (u : Int) % 10)] 5) HB.out)
      have HDn := Lib.hid (HD.out.next hu)
      have hsz : ¬ (9223372036854775807 : Nat) < 1 + D.size := by have := HD.out.size HH.out; omega
      have hul : (u : Int) ≤ 4611686018427387904 := by have h1 := HU.out; have h2 := HH.out; omega
      go_wp2_with fail
      clear hc
      go_roundw
      case rel => exact ⟨u / 10, _, by go_num, rfl, Lib.hid (by have := HU.out; omega), HDn, HBn⟩
      case measure => simp [intOf]; omega
set_option maxHeartbeats 2000000 in
theorem digits_neg (m : Nat) (h1 : 1 ≤ m) (h : m ≤ 4611686018427387904) (w : World) : Calls Tryd.prog 85 #[.int .i64 (-(m : Int))] w (StrPost w (digitsOf (-(m : Int)))) := by
  have hm0 : -(m : Int) < 0 := by omega
  rw [digitsOf_neg m h1]
  have hnn := neg_neg64 h
  have hc := conv_dig w m
  have HH := Lib.hid h
  have HB0 := Lib.hid (below_alloc' (o := .cells #[.int .u8 (48 + (m : Int) % 10)] 5) (below_refl w))
  have HD0 := Lib.hid (Dig.start m)
  go_enter Tryd.func85, Tryd.ntmps85
  go_wp2_with fail
  clear hc
  skip
  generalize w.alloc (.cells #[.int .u8 (48 + (m : Int) % 10)] 5) = w1 at *
  go_loopw [3, 4] (fun t s wr => ∃ (u : Nat) (D : ByteArray), t = .int .u64 (u : Int) ∧ s = .string D ∧ Hid (u ≤ m) ∧ Hid (Dig m u D) ∧ Hid (Below w.heap.size w wr)) (fun t _ _ => (intOf t).toNat)
  case atStart => exact ⟨m / 10, _, by go_num, rfl, Lib.hid (by omega), HD0, HB0⟩
  case round =>
    obtain ⟨u, D, rfl, rfl, HU, HD, HB⟩ := hrel
    by_cases hu : u = 0
    · subst hu
      have HE := Lib.hid HD.out.done
      have hsz : ¬ (9223372036854775807 : Nat) < 1 + D.size := by have := HD.out.size HH.out; omega
      clear HD
      go_wp2_with fail
      go_ret
      exact ⟨by rw [HE.out]; rfl, HB.out⟩
    · have hu0 : (0 : Int) < (u : Int) := by omega
      have hc := conv_dig wr u
      have HBn := Lib.hid (below_alloc' (o := .cells #[.int .u8 (48 + (u : Int) % 10)] 5) HB.out)
      have HDn := Lib.hid (HD.out.next hu)
      have hsz : ¬ (9223372036854775807 : Nat) < 1 + D.size := by have := HD.out.size HH.out; omega
      have hul : (u : Int) ≤ 4611686018427387904 := by have h1 := HU.out; have h2 := HH.out; omega
      go_wp2_with fail
      clear hc
      go_roundw
      case rel => exact ⟨u / 10, _, by go_num, rfl, Lib.hid (by have := HU.out; omega), HDn, HBn⟩
      case measure => simp [intOf]; omega
theorem digits1_calls (n : Int) (h : isNum n = true) (w : World) : Calls Tryd.prog 85 #[.int .i64 n] w (StrPost w (digitsOf n)) := by
  simp only [isNum, Bool.and_eq_true, decide_eq_true_eq] at h
  by_cases h0 : n < 0
  · obtain ⟨m, rfl⟩ : ∃ m : Nat, n = -(m : Int) := ⟨n.natAbs, by omega⟩
    exact digits_neg m (by omega) (by omega) w
  · obtain ⟨m, rfl⟩ : ∃ m : Nat, n = (m : Int) := ⟨n.toNat, by omega⟩
    exact digits_pos m (by omega) w
end Go.Proofs.YtdilmfnijkjiaaaDoor.K
