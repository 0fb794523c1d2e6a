import Derived.Test.YtdilmfnijkjiaaaDoorK18
set_option maxRecDepth 100000
set_option linter.unusedSimpArgs false
set_option linter.unusedVariables false
namespace Go.Proofs.YtdilmfnijkjiaaaDoor.K
open Go.RowKit
/-- What an instruction that is right takes, the lowest first. -/
def needF (TS : List Ty) (fs : List Fn) (op a b res : Int) : List Int :=
  if 8 ≤ op ∧ op ≤ 13 then [0, 0] else if op = 15 ∨ op = 19 then [1] else if op = 16 ∨ op = 17 then [1, 1] else if op = 35 then [0]
  else if op = 4 ∨ op = 6 then [-2] else if op = 5 then [-1] else if op = 7 then [-1, -1] else if op = 14 then [-2, -2]
  else if op = 20 then (fnAt fs a).params else if op = 21 then [res] else if op = 22 then partsOf TS a
  else if op = 23 ∨ op = 28 ∨ op = 33 ∨ op = 34 then [a] else if op = 24 then [a, (partsOf TS a).getD b.toNat 0]
  else if op = 25 then [0, ofOf TS a] else if op = 26 then [a, 0] else if op = 27 then [a, 0, ofOf TS a]
  else if op = 29 then (fnAt fs b).params.take ((fnAt fs b).params.length - (partsOf TS a).length)
  else if op = 30 then a :: partsOf TS a else if op = 32 then [ofOf TS a] else []
/-- What it leaves in their place. -/
def leaveF (TS : List Ty) (fs : List Fn) (op a b : Int) (ls got : List Int) : List Int :=
  if (8 ≤ op ∧ op ≤ 12) ∨ op = 1 ∨ op = 28 ∨ op = 36 then [0] else if op = 2 ∨ (13 ≤ op ∧ op ≤ 17) ∨ op = 33 then [1]
  else if op = 3 then [ls.getD a.toNat 0] else if op = 6 then [got.getD 0 0, got.getD 0 0] else if op = 7 then [got.getD 1 0, got.getD 0 0]
  else if op = 20 then [(fnAt fs a).result] else if op = 22 ∨ op = 25 ∨ op = 29 ∨ op = 31 ∨ op = 32 then [a]
  else if op = 23 then [(partsOf TS a).getD b.toNat 0] else if op = 26 ∨ op = 30 ∨ op = 34 then [ofOf TS a] else []
def fitsB (TS : List Ty) (fs : List Fn) (a b : Int) : Bool :=
  decide ((partsOf TS a).length ≤ (fnAt fs b).params.length) && decide ((fnAt fs b).result = ofOf TS a) && decide ((fnAt fs b).params.drop ((fnAt fs b).params.length - (partsOf TS a).length) = partsOf TS a)
def preErr (TS : List Ty) (fs : List Fn) (op a b : Int) (ls : List Int) : Int :=
  if op = 3 ∧ ls.getD a.toNat 0 = -1 then 15 else if op = 29 ∧ fitsB TS fs a b = false then 17 else 0
def errF (TS : List Ty) (fs : List Fn) (op a b res : Int) (ls got : List Int) : Int :=
  failErr (if op = 14 ∧ got.getD 0 0 ≠ got.getD 1 0 then 16 else 0) (takeErr (preErr TS fs op a b ls) (needF TS fs op a b res) got)
def localsF (op a : Int) (ls got : List Int) : List Int := if op = 4 then ls.set a.toNat (got.getD 0 0) else ls
theorem op_cases {op : Int} (h0 : 0 ≤ op) (h1 : op < 38) : op = 0 ∨ op = 1 ∨ op = 2 ∨ op = 3 ∨ op = 4 ∨ op = 5 ∨ op = 6 ∨ op = 7 ∨ op = 8 ∨ op = 9 ∨ op = 10 ∨ op = 11 ∨ op = 12 ∨ op = 13 ∨ op = 14 ∨ op = 15 ∨ op = 16 ∨ op = 17 ∨ op = 18 ∨ op = 19 ∨ op = 20 ∨ op = 21 ∨ op = 22 ∨ op = 23 ∨ op = 24 ∨ op = 25 ∨ op = 26 ∨ op = 27 ∨ op = 28 ∨ op = 29 ∨ op = 30 ∨ op = 31 ∨ op = 32 ∨ op = 33 ∨ op = 34 ∨ op = 35 ∨ op = 36 ∨ op = 37 := by omega
theorem right_in {op a b : Int} {ts : List Ty} {nf : Nat} {lo cd : Int} (h : rightR (rowOf op) ts nf lo cd a b = true) : 0 ≤ op ∧ op < 38 := by
  unfold rowOf at h
  split at h
  · assumption
  · simp [rightR] at h
/-- What it takes and leaves is what Effect says. -/
theorem eff_need (TS : List Ty) (fs : List Fn) (op a b res : Int) (h0 : 0 ≤ op) (h1 : op < 38) : (effR (rowOf op) TS fs op a b).1 = ((needF TS fs op a b res).length : Int) := by
  rcases op_cases h0 h1 with h | h | h | h | h | h | h | h | h | h | h | h | h | h | h | h | h | h | h | h | h | h | h | h | h | h | h | h | h | h | h | h | h | h | h | h | h | h <;> subst h <;> (first | rfl | (simp [effR, needF]; done) | (simp [effR, needF]; omega))
theorem eff_leave (TS : List Ty) (fs : List Fn) (op a b : Int) (ls got : List Int) (h0 : 0 ≤ op) (h1 : op < 38) : (effR (rowOf op) TS fs op a b).2 = ((leaveF TS fs op a b ls got).length : Int) := by
  rcases op_cases h0 h1 with h | h | h | h | h | h | h | h | h | h | h | h | h | h | h | h | h | h | h | h | h | h | h | h | h | h | h | h | h | h | h | h | h | h | h | h | h | h <;> subst h <;> (first | rfl | (simp [effR, leaveF]; done))
theorem right_local {op a b : Int} {ts : List Ty} {nf : Nat} {lo cd : Int} (hop : op = 3 ∨ op = 4) (h : rightR (rowOf op) ts nf lo cd a b = true) : 0 ≤ a ∧ a < lo := by
  rcases hop with rfl | rfl <;> (simp [rightR, rowOf, rws, twoB, belowB] at h; omega)
theorem right_func {a b : Int} {ts : List Ty} {nf : Nat} {lo cd : Int} (h : rightR (rowOf 20) ts nf lo cd a b = true) : 0 ≤ a ∧ a < nf := by
  simp [rightR, rowOf, rws, twoB, belowB] at h; omega
theorem right_part {op a b : Int} {ts : List Ty} {nf : Nat} {lo cd : Int} (hop : op = 23 ∨ op = 24) (h : rightR (rowOf op) ts nf lo cd a b = true) : kOf ts a = 2 ∧ 0 ≤ b ∧ b < (partsOf ts a).length := by
  rcases hop with rfl | rfl <;> (simp [rightR, rowOf, rws, twoB, belowB] at h; omega)
theorem right_made {a b : Int} {ts : List Ty} {nf : Nat} {lo cd : Int} (h : rightR (rowOf 29) ts nf lo cd a b = true) : kOf ts a = 4 ∧ 0 ≤ b ∧ b < nf := by
  simp [rightR, rowOf, rws, twoB, belowB] at h; omega
theorem right_kind {op a b : Int} {ts : List Ty} {nf : Nat} {lo cd : Int} (h : rightR (rowOf op) ts nf lo cd a b = true) (h0 : 22 ≤ op) (h1 : op ≤ 34) : kOf ts a = (rowOf op).kind := by
  have : op = 22 ∨ op = 23 ∨ op = 24 ∨ op = 25 ∨ op = 26 ∨ op = 27 ∨ op = 28 ∨ op = 29 ∨ op = 30 ∨ op = 31 ∨ op = 32 ∨ op = 33 ∨ op = 34 := by omega
  rcases this with rfl | rfl | rfl | rfl | rfl | rfl | rfl | rfl | rfl | rfl | rfl | rfl | rfl <;> (simp [rightR, rowOf, rws, twoB, belowB] at h ⊢; omega)
end Go.Proofs.YtdilmfnijkjiaaaDoor.K
