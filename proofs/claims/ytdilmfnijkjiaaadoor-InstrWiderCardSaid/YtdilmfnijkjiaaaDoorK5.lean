import Derived.Test.YtdilmfnijkjiaaaDoorK4
set_option maxRecDepth 100000
set_option linter.unusedSimpArgs false
set_option linter.unusedVariables false
namespace Go.Proofs.YtdilmfnijkjiaaaDoor.K
open Go.RowKit
theorem below_alloc' {w W : World} {o : Obj} (h : Below w.heap.size w W) : Below w.heap.size w (W.alloc o) := h.alloc h.size o
theorem below_drew' {w W : World} (h : Below w.heap.size w W) : Below w.heap.size w W.drew := h.drew
theorem below_drewN' {w W : World} {n : Nat} (h : Below w.heap.size w W) : Below w.heap.size w (W.drewN n) := ⟨h.os, h.tape, h.output, h.size, h.block⟩
theorem below_set' {w W : World} {p : Addr} {u : Value} (h : Below w.heap.size w W) (hp : w.heap.size ≤ p.block) : Below w.heap.size w (W.setCell p u) := h.setCell hp u
theorem below_then {w W W' : World} (h : Below w.heap.size w W) (k : Below W.heap.size W W') : Below w.heap.size w W' := h.trans (k.mono h.size)

def belowB (n m : Int) : Bool := decide (0 ≤ n) && decide (n < m)
def isNum (n : Int) : Bool := decide (-4611686018427387904 ≤ n) && decide (n ≤ 4611686018427387903)
def twoB (f : Int) : Bool := f == 7 || f == 8

/-- The values of a scope and of an instruction. -/
abbrev scV (g : Nat) (A : Option Addr) (nf c : Nat) (locals code : Int) : Value := .agg #[.pointer (some ⟨g, 0, none⟩), .slice A nf c, .int .i64 locals, .int .i64 code]
abbrev inV (op a b : Int) : Value := .agg #[.int .i64 op, .int .i64 a, .int .i64 b]

set_option maxHeartbeats 400000 in
theorem right_bad (op a b : Int) (g : Nat) (A : Option Addr) (nf c : Nat) (locals code : Int) (ts : List Ty) (w : World) (hT : Tab w g ts) (nm : ByteArray) (form kd tk lv : Int) (vr : Bool) (hr : rowOf op = ⟨nm, form, kd, tk, lv, vr⟩) (h2 : (form == 7 || form == 8) = false) (hb : b ≠ 0) :
    Calls Tryd.prog 58 #[inV op a b, scV g A nf c locals code] w fun e w' => e = .returned (.bool (false)) ∧ Below w.heap.size w w' := by
  have hb0 : (b != 0) = true := bne_iff_ne.2 hb; clear hb
  have HT := Lib.hid hT
  have HR := Lib.hid (of_row op)
  rw [hr] at HR
  clear hT hr
  have HB0 := Lib.hid (below_alloc' (o := .cells #[.pointer (some ⟨g, 0, none⟩), .slice A nf c, .int .i64 locals, .int .i64 code] 34) (below_alloc' (o := .cells #[.int .i64 op, .int .i64 a, .int .i64 b] 27) (below_refl w)))
  go_enter Tryd.func58, Tryd.ntmps58
  go_wp2_with fail
  refine (HR.out _).mono ?_
  rintro e w1 ⟨rfl, hb⟩
  have HB1 := Lib.hid (below_then HB0.out hb)
  obtain ⟨hc, hf⟩ := bcell hb
  have hz : w.heap.size + 1 < w1.heap.size := by have := hb.size; simp at this; omega
  have hz0 : w.heap.size < w1.heap.size := by omega
  clear hb
  go_wp2_with (first | (go_at_call 81; refine (two_calls _ _).mono ?_; rintro e w' ⟨rfl, rfl⟩))
  go_ret
  exact ⟨by first | rfl | (simp [belowB, isNum]; done), below_alloc' HB1.out⟩
set_option maxHeartbeats 400000 in
theorem right_none (op a b : Int) (g : Nat) (A : Option Addr) (nf c : Nat) (locals code : Int) (ts : List Ty) (w : World) (hT : Tab w g ts) (nm : ByteArray) (form kd tk lv : Int) (vr : Bool) (hr : rowOf op = ⟨nm, form, kd, tk, lv, vr⟩) (hf : form = -1) (hb : b = 0) :
    Calls Tryd.prog 58 #[inV op a b, scV g A nf c locals code] w fun e w' => e = .returned (.bool (false)) ∧ Below w.heap.size w w' := by
  subst hf; subst hb
  have HT := Lib.hid hT
  have HR := Lib.hid (of_row op)
  rw [hr] at HR
  clear hT hr
  have HB0 := Lib.hid (below_alloc' (o := .cells #[.pointer (some ⟨g, 0, none⟩), .slice A nf c, .int .i64 locals, .int .i64 code] 34) (below_alloc' (o := .cells #[.int .i64 op, .int .i64 a, .int .i64 0] 27) (below_refl w)))
  go_enter Tryd.func58, Tryd.ntmps58
  go_wp2_with fail
  refine (HR.out _).mono ?_
  rintro e w1 ⟨rfl, hb⟩
  have HB1 := Lib.hid (below_then HB0.out hb)
  obtain ⟨hc, hf⟩ := bcell hb
  have hz : w.heap.size + 1 < w1.heap.size := by have := hb.size; simp at this; omega
  have hz0 : w.heap.size < w1.heap.size := by omega
  clear hb
  go_wp2_with (first | (go_at_call 81; refine (two_calls _ _).mono ?_; rintro e w' ⟨rfl, rfl⟩))
  go_ret
  exact ⟨by first | rfl | (simp [belowB, isNum]; done), below_alloc' HB1.out⟩
set_option maxHeartbeats 400000 in
theorem right_0 (op a b : Int) (g : Nat) (A : Option Addr) (nf c : Nat) (locals code : Int) (ts : List Ty) (w : World) (hT : Tab w g ts) (nm : ByteArray) (form kd tk lv : Int) (vr : Bool) (hr : rowOf op = ⟨nm, form, kd, tk, lv, vr⟩) (hf : form = 0) (hb : b = 0) :
    Calls Tryd.prog 58 #[inV op a b, scV g A nf c locals code] w fun e w' => e = .returned (.bool (a == 0)) ∧ Below w.heap.size w w' := by
  subst hf; subst hb
  have HT := Lib.hid hT
  have HR := Lib.hid (of_row op)
  rw [hr] at HR
  clear hT hr
  have HB0 := Lib.hid (below_alloc' (o := .cells #[.pointer (some ⟨g, 0, none⟩), .slice A nf c, .int .i64 locals, .int .i64 code] 34) (below_alloc' (o := .cells #[.int .i64 op, .int .i64 a, .int .i64 0] 27) (below_refl w)))
  go_enter Tryd.func58, Tryd.ntmps58
  go_wp2_with fail
  refine (HR.out _).mono ?_
  rintro e w1 ⟨rfl, hb⟩
  have HB1 := Lib.hid (below_then HB0.out hb)
  obtain ⟨hc, hf⟩ := bcell hb
  have hz : w.heap.size + 1 < w1.heap.size := by have := hb.size; simp at this; omega
  have hz0 : w.heap.size < w1.heap.size := by omega
  clear hb
  go_wp2_with (first | (go_at_call 81; refine (two_calls _ _).mono ?_; rintro e w' ⟨rfl, rfl⟩))
  go_ret
  exact ⟨by first | rfl | (simp [belowB, isNum]; done), below_alloc' HB1.out⟩
set_option maxHeartbeats 400000 in
theorem right_1 (op a b : Int) (g : Nat) (A : Option Addr) (nf c : Nat) (locals code : Int) (ts : List Ty) (w : World) (hT : Tab w g ts) (nm : ByteArray) (form kd tk lv : Int) (vr : Bool) (hr : rowOf op = ⟨nm, form, kd, tk, lv, vr⟩) (hf : form = 1) (hb : b = 0) :
    Calls Tryd.prog 58 #[inV op a b, scV g A nf c locals code] w fun e w' => e = .returned (.bool (isNum a)) ∧ Below w.heap.size w w' := by
  subst hf; subst hb
  have HT := Lib.hid hT
  have HR := Lib.hid (of_row op)
  rw [hr] at HR
  clear hT hr
  have HB0 := Lib.hid (below_alloc' (o := .cells #[.pointer (some ⟨g, 0, none⟩), .slice A nf c, .int .i64 locals, .int .i64 code] 34) (below_alloc' (o := .cells #[.int .i64 op, .int .i64 a, .int .i64 0] 27) (below_refl w)))
  go_enter Tryd.func58, Tryd.ntmps58
  go_wp2_with fail
  refine (HR.out _).mono ?_
  rintro e w1 ⟨rfl, hb⟩
  have HB1 := Lib.hid (below_then HB0.out hb)
  obtain ⟨hc, hf⟩ := bcell hb
  have hz : w.heap.size + 1 < w1.heap.size := by have := hb.size; simp at this; omega
  have hz0 : w.heap.size < w1.heap.size := by omega
  clear hb
  go_wp2_with (first | (go_at_call 81; refine (two_calls _ _).mono ?_; rintro e w' ⟨rfl, rfl⟩) | (go_at_call 82; refine (is_calls _ _).mono ?_; rintro e w' ⟨rfl, rfl⟩))
  go_ret
  exact ⟨by first | rfl | (simp [belowB, isNum]; done), below_alloc' HB1.out⟩
set_option maxHeartbeats 400000 in
theorem right_2 (op a b : Int) (g : Nat) (A : Option Addr) (nf c : Nat) (locals code : Int) (ts : List Ty) (w : World) (hT : Tab w g ts) (nm : ByteArray) (form kd tk lv : Int) (vr : Bool) (hr : rowOf op = ⟨nm, form, kd, tk, lv, vr⟩) (hf : form = 2) (hb : b = 0) :
    Calls Tryd.prog 58 #[inV op a b, scV g A nf c locals code] w fun e w' => e = .returned (.bool (belowB a 2)) ∧ Below w.heap.size w w' := by
  subst hf; subst hb
  have HT := Lib.hid hT
  have HR := Lib.hid (of_row op)
  rw [hr] at HR
  clear hT hr
  have HB0 := Lib.hid (below_alloc' (o := .cells #[.pointer (some ⟨g, 0, none⟩), .slice A nf c, .int .i64 locals, .int .i64 code] 34) (below_alloc' (o := .cells #[.int .i64 op, .int .i64 a, .int .i64 0] 27) (below_refl w)))
  go_enter Tryd.func58, Tryd.ntmps58
  go_wp2_with fail
  refine (HR.out _).mono ?_
  rintro e w1 ⟨rfl, hb⟩
  have HB1 := Lib.hid (below_then HB0.out hb)
  obtain ⟨hc, hf⟩ := bcell hb
  have hz : w.heap.size + 1 < w1.heap.size := by have := hb.size; simp at this; omega
  have hz0 : w.heap.size < w1.heap.size := by omega
  clear hb
  go_wp2_with (first | (go_at_call 81; refine (two_calls _ _).mono ?_; rintro e w' ⟨rfl, rfl⟩) | (go_at_call 94; refine (below_calls _ _ _).mono ?_; rintro e w' ⟨rfl, rfl⟩))
  go_ret
  exact ⟨by first | rfl | (simp [belowB, isNum]; done), below_alloc' HB1.out⟩
set_option maxHeartbeats 400000 in
theorem right_3 (op a b : Int) (g : Nat) (A : Option Addr) (nf c : Nat) (locals code : Int) (ts : List Ty) (w : World) (hT : Tab w g ts) (nm : ByteArray) (form kd tk lv : Int) (vr : Bool) (hr : rowOf op = ⟨nm, form, kd, tk, lv, vr⟩) (hf : form = 3) (hb : b = 0) :
    Calls Tryd.prog 58 #[inV op a b, scV g A nf c locals code] w fun e w' => e = .returned (.bool (belowB a locals)) ∧ Below w.heap.size w w' := by
  subst hf; subst hb
  have HT := Lib.hid hT
  have HR := Lib.hid (of_row op)
  rw [hr] at HR
  clear hT hr
  have HB0 := Lib.hid (below_alloc' (o := .cells #[.pointer (some ⟨g, 0, none⟩), .slice A nf c, .int .i64 locals, .int .i64 code] 34) (below_alloc' (o := .cells #[.int .i64 op, .int .i64 a, .int .i64 0] 27) (below_refl w)))
  go_enter Tryd.func58, Tryd.ntmps58
  go_wp2_with fail
  refine (HR.out _).mono ?_
  rintro e w1 ⟨rfl, hb⟩
  have HB1 := Lib.hid (below_then HB0.out hb)
  obtain ⟨hc, hf⟩ := bcell hb
  have hz : w.heap.size + 1 < w1.heap.size := by have := hb.size; simp at this; omega
  have hz0 : w.heap.size < w1.heap.size := by omega
  clear hb
  go_wp2_with (first | (go_at_call 81; refine (two_calls _ _).mono ?_; rintro e w' ⟨rfl, rfl⟩) | (go_at_call 94; refine (below_calls _ _ _).mono ?_; rintro e w' ⟨rfl, rfl⟩))
  go_ret
  exact ⟨by first | rfl | (simp [belowB, isNum]; done), below_alloc' HB1.out⟩
set_option maxHeartbeats 400000 in
theorem right_4 (op a b : Int) (g : Nat) (A : Option Addr) (nf c : Nat) (locals code : Int) (ts : List Ty) (w : World) (hT : Tab w g ts) (nm : ByteArray) (form kd tk lv : Int) (vr : Bool) (hr : rowOf op = ⟨nm, form, kd, tk, lv, vr⟩) (hf : form = 4) (hb : b = 0) :
    Calls Tryd.prog 58 #[inV op a b, scV g A nf c locals code] w fun e w' => e = .returned (.bool (belowB a code)) ∧ Below w.heap.size w w' := by
  subst hf; subst hb
  have HT := Lib.hid hT
  have HR := Lib.hid (of_row op)
  rw [hr] at HR
  clear hT hr
  have HB0 := Lib.hid (below_alloc' (o := .cells #[.pointer (some ⟨g, 0, none⟩), .slice A nf c, .int .i64 locals, .int .i64 code] 34) (below_alloc' (o := .cells #[.int .i64 op, .int .i64 a, .int .i64 0] 27) (below_refl w)))
  go_enter Tryd.func58, Tryd.ntmps58
  go_wp2_with fail
  refine (HR.out _).mono ?_
  rintro e w1 ⟨rfl, hb⟩
  have HB1 := Lib.hid (below_then HB0.out hb)
  obtain ⟨hc, hf⟩ := bcell hb
  have hz : w.heap.size + 1 < w1.heap.size := by have := hb.size; simp at this; omega
  have hz0 : w.heap.size < w1.heap.size := by omega
  clear hb
  go_wp2_with (first | (go_at_call 81; refine (two_calls _ _).mono ?_; rintro e w' ⟨rfl, rfl⟩) | (go_at_call 94; refine (below_calls _ _ _).mono ?_; rintro e w' ⟨rfl, rfl⟩))
  go_ret
  exact ⟨by first | rfl | (simp [belowB, isNum]; done), below_alloc' HB1.out⟩
set_option maxHeartbeats 400000 in
theorem right_5 (op a b : Int) (g : Nat) (A : Option Addr) (nf c : Nat) (locals code : Int) (ts : List Ty) (w : World) (hT : Tab w g ts) (nm : ByteArray) (form kd tk lv : Int) (vr : Bool) (hr : rowOf op = ⟨nm, form, kd, tk, lv, vr⟩) (hf : form = 5) (hb : b = 0) :
    Calls Tryd.prog 58 #[inV op a b, scV g A nf c locals code] w fun e w' => e = .returned (.bool (belowB a nf)) ∧ Below w.heap.size w w' := by
  subst hf; subst hb
  have HT := Lib.hid hT
  have HR := Lib.hid (of_row op)
  rw [hr] at HR
  clear hT hr
  have HB0 := Lib.hid (below_alloc' (o := .cells #[.pointer (some ⟨g, 0, none⟩), .slice A nf c, .int .i64 locals, .int .i64 code] 34) (below_alloc' (o := .cells #[.int .i64 op, .int .i64 a, .int .i64 0] 27) (below_refl w)))
  go_enter Tryd.func58, Tryd.ntmps58
  go_wp2_with fail
  refine (HR.out _).mono ?_
  rintro e w1 ⟨rfl, hb⟩
  have HB1 := Lib.hid (below_then HB0.out hb)
  obtain ⟨hc, hf⟩ := bcell hb
  have hz : w.heap.size + 1 < w1.heap.size := by have := hb.size; simp at this; omega
  have hz0 : w.heap.size < w1.heap.size := by omega
  clear hb
  go_wp2_with (first | (go_at_call 81; refine (two_calls _ _).mono ?_; rintro e w' ⟨rfl, rfl⟩) | (go_at_call 94; refine (below_calls _ _ _).mono ?_; rintro e w' ⟨rfl, rfl⟩))
  go_ret
  exact ⟨by first | rfl | (simp [belowB, isNum]; done), below_alloc' HB1.out⟩
set_option maxHeartbeats 400000 in
theorem right_9 (op a b : Int) (g : Nat) (A : Option Addr) (nf c : Nat) (locals code : Int) (ts : List Ty) (w : World) (hT : Tab w g ts) (nm : ByteArray) (form kd tk lv : Int) (vr : Bool) (hr : rowOf op = ⟨nm, form, kd, tk, lv, vr⟩) (hf : form = 9) (hb : b = 0) :
    Calls Tryd.prog 58 #[inV op a b, scV g A nf c locals code] w fun e w' => e = .returned (.bool (belowB a 256)) ∧ Below w.heap.size w w' := by
  subst hf; subst hb
  have HT := Lib.hid hT
  have HR := Lib.hid (of_row op)
  rw [hr] at HR
  clear hT hr
  have HB0 := Lib.hid (below_alloc' (o := .cells #[.pointer (some ⟨g, 0, none⟩), .slice A nf c, .int .i64 locals, .int .i64 code] 34) (below_alloc' (o := .cells #[.int .i64 op, .int .i64 a, .int .i64 0] 27) (below_refl w)))
  go_enter Tryd.func58, Tryd.ntmps58
  go_wp2_with fail
  refine (HR.out _).mono ?_
  rintro e w1 ⟨rfl, hb⟩
  have HB1 := Lib.hid (below_then HB0.out hb)
  obtain ⟨hc, hf⟩ := bcell hb
  have hz : w.heap.size + 1 < w1.heap.size := by have := hb.size; simp at this; omega
  have hz0 : w.heap.size < w1.heap.size := by omega
  clear hb
  go_wp2_with (first | (go_at_call 81; refine (two_calls _ _).mono ?_; rintro e w' ⟨rfl, rfl⟩) | (go_at_call 94; refine (below_calls _ _ _).mono ?_; rintro e w' ⟨rfl, rfl⟩))
  go_ret
  exact ⟨by first | rfl | (simp [belowB, isNum]; done), below_alloc' HB1.out⟩
set_option maxHeartbeats 400000 in
theorem right_6 (op a b : Int) (g : Nat) (A : Option Addr) (nf c : Nat) (locals code : Int) (ts : List Ty) (w : World) (hT : Tab w g ts) (nm : ByteArray) (form kd tk lv : Int) (vr : Bool) (hr : rowOf op = ⟨nm, form, kd, tk, lv, vr⟩) (hf : form = 6) (hb : b = 0) :
    Calls Tryd.prog 58 #[inV op a b, scV g A nf c locals code] w fun e w' => e = .returned (.bool (kOf ts a == kd)) ∧ Below w.heap.size w w' := by
  subst hf; subst hb
  have HT := Lib.hid hT
  have HR := Lib.hid (of_row op)
  rw [hr] at HR
  clear hT hr
  have HB0 := Lib.hid (below_alloc' (o := .cells #[.pointer (some ⟨g, 0, none⟩), .slice A nf c, .int .i64 locals, .int .i64 code] 34) (below_alloc' (o := .cells #[.int .i64 op, .int .i64 a, .int .i64 0] 27) (below_refl w)))
  go_enter Tryd.func58, Tryd.ntmps58
  go_wp2_with fail
  refine (HR.out _).mono ?_
  rintro e w1 ⟨rfl, hb⟩
  have HB1 := Lib.hid (below_then HB0.out hb)
  obtain ⟨hc, hf⟩ := bcell hb
  have hz : w.heap.size + 1 < w1.heap.size := by have := hb.size; simp at this; omega
  have hz0 : w.heap.size < w1.heap.size := by omega
  clear hb
  go_wp2_with (go_at_call 81; refine (two_calls _ _).mono ?_; rintro e w' ⟨rfl, rfl⟩)
  go_quiet ((go_at_call 30; exact Calls.quiet_of_same ((kind_calls g ts a _ (HT.out.below (below_drewN' (below_alloc' HB1.out)))).mono fun _ _ h => ⟨h.1, h.2.symm⟩)))
  go_wp2
  go_ret
  exact ⟨rfl, below_drewN' (below_alloc' HB1.out)⟩
set_option maxHeartbeats 400000 in
theorem right_8t (op a b : Int) (g : Nat) (A : Option Addr) (nf c : Nat) (locals code : Int) (ts : List Ty) (w : World) (hT : Tab w g ts) (nm : ByteArray) (form kd tk lv : Int) (vr : Bool) (hr : rowOf op = ⟨nm, form, kd, tk, lv, vr⟩) (hf : form = 8) (hk : (kOf ts a == kd) = true) :
    Calls Tryd.prog 58 #[inV op a b, scV g A nf c locals code] w fun e w' => e = .returned (.bool (belowB b nf)) ∧ Below w.heap.size w w' := by
  subst hf
  have HT := Lib.hid hT
  have HR := Lib.hid (of_row op)
  rw [hr] at HR
  clear hT hr
  have HB0 := Lib.hid (below_alloc' (o := .cells #[.pointer (some ⟨g, 0, none⟩), .slice A nf c, .int .i64 locals, .int .i64 code] 34) (below_alloc' (o := .cells #[.int .i64 op, .int .i64 a, .int .i64 b] 27) (below_refl w)))
  go_enter Tryd.func58, Tryd.ntmps58
  go_wp2_with fail
  refine (HR.out _).mono ?_
  rintro e w1 ⟨rfl, hb⟩
  have HB1 := Lib.hid (below_then HB0.out hb)
  obtain ⟨hc, hf⟩ := bcell hb
  have hz : w.heap.size + 1 < w1.heap.size := by have := hb.size; simp at this; omega
  have hz0 : w.heap.size < w1.heap.size := by omega
  clear hb
  go_wp2_with (go_at_call 81; refine (two_calls _ _).mono ?_; rintro e w' ⟨rfl, rfl⟩)
  go_quiet ((first | (go_at_call 30; exact Calls.quiet_of_same ((kind_calls g ts a _ (HT.out.below (below_drewN' (below_alloc' HB1.out)))).mono fun _ _ h => ⟨h.1, h.2.symm⟩)) | (go_at_call 94; exact Calls.quiet_of_same ((below_calls _ _ _).mono fun _ _ h => ⟨h.1, h.2.symm⟩))))
  go_wp2
  go_ret
  exact ⟨by first | rfl | (simp [belowB]; done), below_drewN' (below_alloc' HB1.out)⟩
set_option maxHeartbeats 400000 in
theorem right_8f (op a b : Int) (g : Nat) (A : Option Addr) (nf c : Nat) (locals code : Int) (ts : List Ty) (w : World) (hT : Tab w g ts) (nm : ByteArray) (form kd tk lv : Int) (vr : Bool) (hr : rowOf op = ⟨nm, form, kd, tk, lv, vr⟩) (hf : form = 8) (hk : (kOf ts a == kd) = false) :
    Calls Tryd.prog 58 #[inV op a b, scV g A nf c locals code] w fun e w' => e = .returned (.bool (false)) ∧ Below w.heap.size w w' := by
  subst hf
  have HT := Lib.hid hT
  have HR := Lib.hid (of_row op)
  rw [hr] at HR
  clear hT hr
  have HB0 := Lib.hid (below_alloc' (o := .cells #[.pointer (some ⟨g, 0, none⟩), .slice A nf c, .int .i64 locals, .int .i64 code] 34) (below_alloc' (o := .cells #[.int .i64 op, .int .i64 a, .int .i64 b] 27) (below_refl w)))
  go_enter Tryd.func58, Tryd.ntmps58
  go_wp2_with fail
  refine (HR.out _).mono ?_
  rintro e w1 ⟨rfl, hb⟩
  have HB1 := Lib.hid (below_then HB0.out hb)
  obtain ⟨hc, hf⟩ := bcell hb
  have hz : w.heap.size + 1 < w1.heap.size := by have := hb.size; simp at this; omega
  have hz0 : w.heap.size < w1.heap.size := by omega
  clear hb
  go_wp2_with (go_at_call 81; refine (two_calls _ _).mono ?_; rintro e w' ⟨rfl, rfl⟩)
  go_quiet ((first | (go_at_call 30; exact Calls.quiet_of_same ((kind_calls g ts a _ (HT.out.below (below_drewN' (below_alloc' HB1.out)))).mono fun _ _ h => ⟨h.1, h.2.symm⟩)) | (go_at_call 94; exact Calls.quiet_of_same ((below_calls _ _ _).mono fun _ _ h => ⟨h.1, h.2.symm⟩))))
  go_wp2
  go_ret
  exact ⟨by first | rfl | (simp [belowB]; done), below_drewN' (below_alloc' HB1.out)⟩
end Go.Proofs.YtdilmfnijkjiaaaDoor.K
