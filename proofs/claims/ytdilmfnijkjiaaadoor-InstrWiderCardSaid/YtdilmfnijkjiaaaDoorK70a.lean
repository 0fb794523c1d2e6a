import Derived.Test.YtdilmfnijkjiaaaDoorK67
import Derived.Test.YtdilmfnijkjiaaaDoorK41
import Derived.Test.YtdilmfnijkjiaaaDoorK13c
import Derived.BigRegion
set_option maxRecDepth 100000
set_option linter.unusedSimpArgs false
set_option linter.unusedVariables false
namespace Go.Proofs.YtdilmfnijkjiaaaDoor.K
open Go.RowKit
/-- What layer 04's scopes answers. -/
def Sc4Post (w : World) (A : Option Addr) (c : Nat) (ts : List Ty) (FA : Option Addr) (fc nf : Nat) (lo code : Int) (e : Ending) (w' : World) : Prop :=
  ∃ (tv : Option Addr) (ok : Bool), e = .returned (.tuple #[.agg #[.pointer tv, .slice FA nf fc, .int .i64 lo, .int .i64 code], .agg #[.slice A ts.length c, .slice FA nf fc, .int .i64 lo, .int .i64 code], .bool ok]) ∧ Below w.heap.size w w' ∧
    (ok = true → ∃ g, tv = some ⟨g, 0, none⟩ ∧ tysOk ts ∧ TabT w' g (allOf ts))
theorem heap3' (w : World) (o1 o2 o3 : Obj) : (((w.alloc o1).alloc o2).alloc o3).heap[w.heap.size]? = some o1 ∧ (((w.alloc o1).alloc o2).alloc o3).heap[w.heap.size + 1]? = some o2 ∧ (((w.alloc o1).alloc o2).alloc o3).heap[w.heap.size + 1 + 1]? = some o3 := by
  have e2 : ((w.alloc o1).alloc o2).heap.size = w.heap.size + 2 := by simp
  refine ⟨(heap_alloc_old _ o3 (by omega)).trans (heap2' w o1 o2).1, (heap_alloc_old _ o3 (by omega)).trans (heap2' w o1 o2).2, ?_⟩
  have k := heap_alloc_new ((w.alloc o1).alloc o2) o3
  rwa [e2] at k
theorem below_set4' {w W : World} {k : Nat} {a b c d : Value} (h : Below w.heap.size w W) (hp : w.heap.size ≤ k) : Below w.heap.size w ((((W.setCell ⟨k, 0, none⟩ a).setCell ⟨k, 1, none⟩ b).setCell ⟨k, 2, none⟩ c).setCell ⟨k, 3, none⟩ d) :=
  (((h.setCell (p := ⟨k, 0, none⟩) hp a).setCell (p := ⟨k, 1, none⟩) hp b).setCell (p := ⟨k, 2, none⟩) hp c).setCell (p := ⟨k, 3, none⟩) hp d
def tailOf : Code → Code
  | .seq _ b => b
  | c => c
def headOf : Code → Code
  | .seq a _ => a
  | c => c
noncomputable def f57r4 : Code := headOf (tailOf (tailOf (tailOf (tailOf (Tryd.f57.body.getD .skip)))))
set_option maxHeartbeats 16000000 in
theorem sc_tail (A : Option Addr) (c : Nat) (ts : List Ty) (FA : Option Addr) (fc nf : Nat) (lo code : Int) (w w2 : World) (tv : Option Addr) (ok : Bool) (u0 u4 u6 u7 u8 u10 u11 u12 u13 u14 u15 u16 u17 u18 u19 u20 u21 u22 u23 u24 u25 u26 u27 u28 u29 u30 u31 : Value) (K : Act → World → Prop)
    (hK : ∀ a w', Code.wp Tryd.prog Code.ret (bodyPost Tryd.prog Tryd.f57 (Sc4Post w A c ts FA fc nf lo code)) a w' → K a w')
    (HB : Hid (Below w.heap.size w w2)) (hra : Hid (w2.heap[w.heap.size]? = some (.cells #[.slice A ts.length c, .slice FA nf fc, .int .i64 lo, .int .i64 code] 76 (0, 0)))) (HRB : Hid (w2.heap[w.heap.size + 1]? = some (.cells #[.pointer none, .slice none 0 0, .int .i64 0, .int .i64 0] 34 (0, 0)))) (HRC : Hid (w2.heap[w.heap.size + 1 + 1]? = some (.cells #[.slice none 0 0, .slice none 0 0, .int .i64 0, .int .i64 0] 36 (0, 0))))
    (HT : Hid (ok = true → ∃ g, tv = some ⟨g, 0, none⟩ ∧ tysOk ts ∧ TabT w2 g (allOf ts))) :
    Code.wp Tryd.prog f57r4 (Exit.then K (bodyPost Tryd.prog Tryd.f57 (Sc4Post w A c ts FA fc nf lo code))) ⟨#[u0, .pointer (some ⟨w.heap.size, 0, none⟩), .pointer (some ⟨w.heap.size + 1, 0, none⟩), .pointer (some ⟨w.heap.size + 1 + 1, 0, none⟩), u4, .pointer tv, u6, u7, u8, .bool ok, u10, u11, u12, u13, u14, u15, u16, u17, u18, u19, u20, u21, u22, u23, u24, u25, u26, u27, u28, u29, u30, u31, undef, undef, undef, undef, undef, undef, undef, undef, undef, undef, undef, undef, undef, undef, undef, undef, undef, undef], []⟩ w2 := by
  obtain ⟨e0, e1, e2, e3⟩ := cells4' hra.out
  obtain ⟨y0, y1, y2, y3⟩ := cells4' HRB.out
  obtain ⟨x0, x1, x2, x3⟩ := cells4' HRC.out
  have z0 := frozen_of_row _ _ 0 _ _ HRB.out
  have z1 := frozen_of_row _ _ 1 _ _ HRB.out
  have z2 := frozen_of_row _ _ 2 _ _ HRB.out
  have z3 := frozen_of_row _ _ 3 _ _ HRB.out
  have v0 := frozen_of_row _ _ 0 _ _ HRC.out
  have v1 := frozen_of_row _ _ 1 _ _ HRC.out
  have v2 := frozen_of_row _ _ 2 _ _ HRC.out
  have v3 := frozen_of_row _ _ 3 _ _ HRC.out
  have HK := Lib.hid hK
  clear hK hra
  simp only [f57r4, headOf, tailOf, Tryd.f57, Option.getD]
  go_region
  show K _ _
  refine HK.out _ _ ?_
  refine wp_ret ?_
  have r0 : (((((((((w2.setCell ⟨w.heap.size + 1, 0, none⟩ (.pointer tv)).setCell ⟨w.heap.size + 1, 1, none⟩ (.slice FA nf fc)).setCell ⟨w.heap.size + 1, 2, none⟩ (.int .i64 lo)).setCell ⟨w.heap.size + 1, 3, none⟩ (.int .i64 code)).setCell ⟨w.heap.size + 1 + 1, 0, none⟩ (.slice A ts.length c)).setCell ⟨w.heap.size + 1 + 1, 1, none⟩ (.slice FA nf fc)).setCell ⟨w.heap.size + 1 + 1, 2, none⟩ (.int .i64 lo)).setCell ⟨w.heap.size + 1 + 1, 3, none⟩ (.int .i64 code)).drew).cell? ⟨w.heap.size + 1, 0, none⟩ = some (.pointer tv) := by go_simp
  have r1 : (((((((((w2.setCell ⟨w.heap.size + 1, 0, none⟩ (.pointer tv)).setCell ⟨w.heap.size + 1, 1, none⟩ (.slice FA nf fc)).setCell ⟨w.heap.size + 1, 2, none⟩ (.int .i64 lo)).setCell ⟨w.heap.size + 1, 3, none⟩ (.int .i64 code)).setCell ⟨w.heap.size + 1 + 1, 0, none⟩ (.slice A ts.length c)).setCell ⟨w.heap.size + 1 + 1, 1, none⟩ (.slice FA nf fc)).setCell ⟨w.heap.size + 1 + 1, 2, none⟩ (.int .i64 lo)).setCell ⟨w.heap.size + 1 + 1, 3, none⟩ (.int .i64 code)).drew).cell? ⟨w.heap.size + 1, 1, none⟩ = some (.slice FA nf fc) := by go_simp
  have r2 : (((((((((w2.setCell ⟨w.heap.size + 1, 0, none⟩ (.pointer tv)).setCell ⟨w.heap.size + 1, 1, none⟩ (.slice FA nf fc)).setCell ⟨w.heap.size + 1, 2, none⟩ (.int .i64 lo)).setCell ⟨w.heap.size + 1, 3, none⟩ (.int .i64 code)).setCell ⟨w.heap.size + 1 + 1, 0, none⟩ (.slice A ts.length c)).setCell ⟨w.heap.size + 1 + 1, 1, none⟩ (.slice FA nf fc)).setCell ⟨w.heap.size + 1 + 1, 2, none⟩ (.int .i64 lo)).setCell ⟨w.heap.size + 1 + 1, 3, none⟩ (.int .i64 code)).drew).cell? ⟨w.heap.size + 1, 2, none⟩ = some (.int .i64 lo) := by go_simp
  have r3 : (((((((((w2.setCell ⟨w.heap.size + 1, 0, none⟩ (.pointer tv)).setCell ⟨w.heap.size + 1, 1, none⟩ (.slice FA nf fc)).setCell ⟨w.heap.size + 1, 2, none⟩ (.int .i64 lo)).setCell ⟨w.heap.size + 1, 3, none⟩ (.int .i64 code)).setCell ⟨w.heap.size + 1 + 1, 0, none⟩ (.slice A ts.length c)).setCell ⟨w.heap.size + 1 + 1, 1, none⟩ (.slice FA nf fc)).setCell ⟨w.heap.size + 1 + 1, 2, none⟩ (.int .i64 lo)).setCell ⟨w.heap.size + 1 + 1, 3, none⟩ (.int .i64 code)).drew).cell? ⟨w.heap.size + 1, 3, none⟩ = some (.int .i64 code) := by go_simp
  have s0 : (((((((((w2.setCell ⟨w.heap.size + 1, 0, none⟩ (.pointer tv)).setCell ⟨w.heap.size + 1, 1, none⟩ (.slice FA nf fc)).setCell ⟨w.heap.size + 1, 2, none⟩ (.int .i64 lo)).setCell ⟨w.heap.size + 1, 3, none⟩ (.int .i64 code)).setCell ⟨w.heap.size + 1 + 1, 0, none⟩ (.slice A ts.length c)).setCell ⟨w.heap.size + 1 + 1, 1, none⟩ (.slice FA nf fc)).setCell ⟨w.heap.size + 1 + 1, 2, none⟩ (.int .i64 lo)).setCell ⟨w.heap.size + 1 + 1, 3, none⟩ (.int .i64 code)).drew).cell? ⟨w.heap.size + 1 + 1, 0, none⟩ = some (.slice A ts.length c) := by go_simp
  have s1 : (((((((((w2.setCell ⟨w.heap.size + 1, 0, none⟩ (.pointer tv)).setCell ⟨w.heap.size + 1, 1, none⟩ (.slice FA nf fc)).setCell ⟨w.heap.size + 1, 2, none⟩ (.int .i64 lo)).setCell ⟨w.heap.size + 1, 3, none⟩ (.int .i64 code)).setCell ⟨w.heap.size + 1 + 1, 0, none⟩ (.slice A ts.length c)).setCell ⟨w.heap.size + 1 + 1, 1, none⟩ (.slice FA nf fc)).setCell ⟨w.heap.size + 1 + 1, 2, none⟩ (.int .i64 lo)).setCell ⟨w.heap.size + 1 + 1, 3, none⟩ (.int .i64 code)).drew).cell? ⟨w.heap.size + 1 + 1, 1, none⟩ = some (.slice FA nf fc) := by go_simp
  have s2 : (((((((((w2.setCell ⟨w.heap.size + 1, 0, none⟩ (.pointer tv)).setCell ⟨w.heap.size + 1, 1, none⟩ (.slice FA nf fc)).setCell ⟨w.heap.size + 1, 2, none⟩ (.int .i64 lo)).setCell ⟨w.heap.size + 1, 3, none⟩ (.int .i64 code)).setCell ⟨w.heap.size + 1 + 1, 0, none⟩ (.slice A ts.length c)).setCell ⟨w.heap.size + 1 + 1, 1, none⟩ (.slice FA nf fc)).setCell ⟨w.heap.size + 1 + 1, 2, none⟩ (.int .i64 lo)).setCell ⟨w.heap.size + 1 + 1, 3, none⟩ (.int .i64 code)).drew).cell? ⟨w.heap.size + 1 + 1, 2, none⟩ = some (.int .i64 lo) := by go_simp
  have s3 : (((((((((w2.setCell ⟨w.heap.size + 1, 0, none⟩ (.pointer tv)).setCell ⟨w.heap.size + 1, 1, none⟩ (.slice FA nf fc)).setCell ⟨w.heap.size + 1, 2, none⟩ (.int .i64 lo)).setCell ⟨w.heap.size + 1, 3, none⟩ (.int .i64 code)).setCell ⟨w.heap.size + 1 + 1, 0, none⟩ (.slice A ts.length c)).setCell ⟨w.heap.size + 1 + 1, 1, none⟩ (.slice FA nf fc)).setCell ⟨w.heap.size + 1 + 1, 2, none⟩ (.int .i64 lo)).setCell ⟨w.heap.size + 1 + 1, 3, none⟩ (.int .i64 code)).drew).cell? ⟨w.heap.size + 1 + 1, 3, none⟩ = some (.int .i64 code) := by go_simp
  have hTF : ok = true → ∃ g, tv = some ⟨g, 0, none⟩ ∧ tysOk ts ∧ TabT (((((((((w2.setCell ⟨w.heap.size + 1, 0, none⟩ (.pointer tv)).setCell ⟨w.heap.size + 1, 1, none⟩ (.slice FA nf fc)).setCell ⟨w.heap.size + 1, 2, none⟩ (.int .i64 lo)).setCell ⟨w.heap.size + 1, 3, none⟩ (.int .i64 code)).setCell ⟨w.heap.size + 1 + 1, 0, none⟩ (.slice A ts.length c)).setCell ⟨w.heap.size + 1 + 1, 1, none⟩ (.slice FA nf fc)).setCell ⟨w.heap.size + 1 + 1, 2, none⟩ (.int .i64 lo)).setCell ⟨w.heap.size + 1 + 1, 3, none⟩ (.int .i64 code)).drew) g (allOf ts) := fun h => by
    obtain ⟨g, h1, h2, h3⟩ := HT.out h
    exact ⟨g, h1, h2, TabT.set44 h3 HRB.out HRC.out (.pointer tv) (.slice FA nf fc) (.int .i64 lo) (.int .i64 code) (.slice A ts.length c) (.slice FA nf fc) (.int .i64 lo) (.int .i64 code)⟩
  have hbe : Below w.heap.size w (((((((((w2.setCell ⟨w.heap.size + 1, 0, none⟩ (.pointer tv)).setCell ⟨w.heap.size + 1, 1, none⟩ (.slice FA nf fc)).setCell ⟨w.heap.size + 1, 2, none⟩ (.int .i64 lo)).setCell ⟨w.heap.size + 1, 3, none⟩ (.int .i64 code)).setCell ⟨w.heap.size + 1 + 1, 0, none⟩ (.slice A ts.length c)).setCell ⟨w.heap.size + 1 + 1, 1, none⟩ (.slice FA nf fc)).setCell ⟨w.heap.size + 1 + 1, 2, none⟩ (.int .i64 lo)).setCell ⟨w.heap.size + 1 + 1, 3, none⟩ (.int .i64 code)).drew) := below_drew' (below_set4' (below_set4' HB.out (by omega)) (by omega))
  generalize (((((((((w2.setCell ⟨w.heap.size + 1, 0, none⟩ (.pointer tv)).setCell ⟨w.heap.size + 1, 1, none⟩ (.slice FA nf fc)).setCell ⟨w.heap.size + 1, 2, none⟩ (.int .i64 lo)).setCell ⟨w.heap.size + 1, 3, none⟩ (.int .i64 code)).setCell ⟨w.heap.size + 1 + 1, 0, none⟩ (.slice A ts.length c)).setCell ⟨w.heap.size + 1 + 1, 1, none⟩ (.slice FA nf fc)).setCell ⟨w.heap.size + 1 + 1, 2, none⟩ (.int .i64 lo)).setCell ⟨w.heap.size + 1 + 1, 3, none⟩ (.int .i64 code)).drew) = Wf at *
  exact bodyPost_ret (v := .tuple #[.agg #[.pointer tv, .slice FA nf fc, .int .i64 lo, .int .i64 code], .agg #[.slice A ts.length c, .slice FA nf fc, .int .i64 lo, .int .i64 code], .bool ok]) (by simp [results, Tryd.results57, go_sem, r0, r1, r2, r3, s0, s1, s2, s3]) rfl ⟨_, _, rfl, hbe, hTF⟩
end Go.Proofs.YtdilmfnijkjiaaaDoor.K
