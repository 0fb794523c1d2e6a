import Derived.Test.YtdilmfnijkjiaaaDoorK75
import Derived.Test.YtdilmfnijkjiaaaDoorK71
set_option maxRecDepth 100000
set_option linter.unusedSimpArgs false
set_option linter.unusedVariables false
namespace Go.Proofs.YtdilmfnijkjiaaaDoor.K
open Go.RowKit
/-- The text as reference 04 writes it. -/
def text4 (nm : ByteArray) (form a b : Int) : ByteArray :=
  if nm = ⟨#[]⟩ ∨ form = 0 then nm
  else if isNum a = true then
    (if twoB form = true then (if isNum b = true then nm ++ ⟨#[32]⟩ ++ digitsOf a ++ ⟨#[32]⟩ ++ digitsOf b else ⟨#[]⟩)
     else nm ++ ⟨#[32]⟩ ++ digitsOf a)
  else ⟨#[]⟩
theorem text4_eq (op a b : Int) : text4 (rowOf op).name (rowOf op).form a b = textM ⟨op, a, b⟩ := by
  unfold text4 textM
  dsimp only
  by_cases h1 : (rowOf op).name = ⟨#[]⟩ ∨ (rowOf op).form = 0
  · rw [if_pos h1, if_pos h1]
  rw [if_neg h1, if_neg h1]
  cases h2 : twoB (rowOf op).form <;> cases h3 : isNum a <;> cases h4 : isNum b <;> simp [txt, ByteArray.append_assoc]
theorem twoB_of {f : Int} (h7 : ¬ f = 7) (h8 : ¬ f = 8) : twoB f = false := by simp [twoB, h7, h8]
set_option maxHeartbeats 2000000 in
theorem t4_zero (op a b : Int) (w : World) (hf : (rowOf op).form = 0) : Calls Tryd.prog 40 #[.agg #[.int .i64 op, .int .i64 a, .int .i64 b]] w (StrPost w ((rowOf op).name)) := by
  have HN := Lib.hid (name4_calls op)
  unfold NamePost nameOf at HN
  have HF := Lib.hid (form4_calls op)
  unfold IntPost at HF
  have hsz := name_small op
  generalize (rowOf op).name = nm at *
  generalize (rowOf op).form = fm at *
  have hb0 : Below w.heap.size w (w.alloc (.cells #[.int .i64 op, .int .i64 a, .int .i64 b] 27)) := below_alloc' (below_refl w)
  have HB0 := Lib.hid hb0
  have R0 := Lib.hid (heap_alloc_new w (.cells #[.int .i64 op, .int .i64 a, .int .i64 b] 27))
  have HSZ := Lib.hid hsz
  clear hb0 hsz
  subst hf
  go_enter Tryd.func40, Tryd.ntmps40
  go_wp2_with fail
  refine (HN.out _).mono ?_
  rintro e w1 ⟨rfl, hb⟩
  have HB1 := Lib.hid (below_then HB0.out hb)
  have R1 := Lib.hid ((hb.block _ (Array.getElem?_eq_some_iff.1 R0.out).1).trans R0.out)
  obtain ⟨c0, c1, c2⟩ := cells3' R1.out
  clear hb HN HB0 R0
  go_wp2_with fail
  refine (HF.out _).mono ?_
  rintro e w2 ⟨rfl, hb⟩
  have HB2 := Lib.hid (below_then HB1.out hb)
  have R2 := Lib.hid ((hb.block _ (Array.getElem?_eq_some_iff.1 R1.out).1).trans R1.out)
  clear hb HF HB1 R1 c0 c1 c2
  obtain ⟨c0, c1, c2⟩ := cells3' R2.out
  go_wp2_with fail
  go_ret
  exact ⟨rfl, HB2.out⟩
set_option maxHeartbeats 2000000 in
theorem t4_empty (op a b : Int) (w : World) (hn : (rowOf op).name = ⟨#[]⟩) (hf : ¬ (rowOf op).form = 0) : Calls Tryd.prog 40 #[.agg #[.int .i64 op, .int .i64 a, .int .i64 b]] w (StrPost w ((rowOf op).name)) := by
  have HN := Lib.hid (name4_calls op)
  unfold NamePost nameOf at HN
  have HF := Lib.hid (form4_calls op)
  unfold IntPost at HF
  have hsz := name_small op
  generalize (rowOf op).name = nm at *
  generalize (rowOf op).form = fm at *
  have hb0 : Below w.heap.size w (w.alloc (.cells #[.int .i64 op, .int .i64 a, .int .i64 b] 27)) := below_alloc' (below_refl w)
  have HB0 := Lib.hid hb0
  have R0 := Lib.hid (heap_alloc_new w (.cells #[.int .i64 op, .int .i64 a, .int .i64 b] 27))
  have HSZ := Lib.hid hsz
  clear hb0 hsz
  have hne := str_empty hn
  have hf0 : (fm == 0) = false := beq_eq_false_iff_ne.2 hf
  clear hn hf
  go_enter Tryd.func40, Tryd.ntmps40
  go_wp2_with fail
  refine (HN.out _).mono ?_
  rintro e w1 ⟨rfl, hb⟩
  have HB1 := Lib.hid (below_then HB0.out hb)
  have R1 := Lib.hid ((hb.block _ (Array.getElem?_eq_some_iff.1 R0.out).1).trans R0.out)
  obtain ⟨c0, c1, c2⟩ := cells3' R1.out
  clear hb HN HB0 R0
  go_wp2_with fail
  refine (HF.out _).mono ?_
  rintro e w2 ⟨rfl, hb⟩
  have HB2 := Lib.hid (below_then HB1.out hb)
  have R2 := Lib.hid ((hb.block _ (Array.getElem?_eq_some_iff.1 R1.out).1).trans R1.out)
  clear hb HF HB1 R1 c0 c1 c2
  obtain ⟨c0, c1, c2⟩ := cells3' R2.out
  go_wp2_with fail
  go_ret
  exact ⟨rfl, HB2.out⟩
set_option maxHeartbeats 2000000 in
theorem t4_nonum (op a b : Int) (w : World) (hn : ¬ (rowOf op).name = ⟨#[]⟩) (hf : ¬ (rowOf op).form = 0) (ha : isNum a = false) : Calls Tryd.prog 40 #[.agg #[.int .i64 op, .int .i64 a, .int .i64 b]] w (StrPost w (⟨#[]⟩)) := by
  have HN := Lib.hid (name4_calls op)
  unfold NamePost nameOf at HN
  have HF := Lib.hid (form4_calls op)
  unfold IntPost at HF
  have hsz := name_small op
  generalize (rowOf op).name = nm at *
  generalize (rowOf op).form = fm at *
  have hb0 : Below w.heap.size w (w.alloc (.cells #[.int .i64 op, .int .i64 a, .int .i64 b] 27)) := below_alloc' (below_refl w)
  have HB0 := Lib.hid hb0
  have R0 := Lib.hid (heap_alloc_new w (.cells #[.int .i64 op, .int .i64 a, .int .i64 b] 27))
  have HSZ := Lib.hid hsz
  clear hb0 hsz
  have hne := str_nonempty hn
  have hf0 : (fm == 0) = false := beq_eq_false_iff_ne.2 hf
  clear hn hf
  go_enter Tryd.func40, Tryd.ntmps40
  go_wp2_with fail
  refine (HN.out _).mono ?_
  rintro e w1 ⟨rfl, hb⟩
  have HB1 := Lib.hid (below_then HB0.out hb)
  have R1 := Lib.hid ((hb.block _ (Array.getElem?_eq_some_iff.1 R0.out).1).trans R0.out)
  obtain ⟨c0, c1, c2⟩ := cells3' R1.out
  clear hb HN HB0 R0
  go_wp2_with fail
  refine (HF.out _).mono ?_
  rintro e w2 ⟨rfl, hb⟩
  have HB2 := Lib.hid (below_then HB1.out hb)
  have R2 := Lib.hid ((hb.block _ (Array.getElem?_eq_some_iff.1 R1.out).1).trans R1.out)
  clear hb HF HB1 R1 c0 c1 c2
  obtain ⟨c0, c1, c2⟩ := cells3' R2.out
  have HI := Lib.hid (is1_calls a)
  rw [ha] at HI
  clear ha
  go_wp2_with (first | (go_at_call 84; refine (HI.out _).mono ?_; rintro e w' ⟨rfl, rfl⟩))
  go_ret
  exact ⟨rfl, HB2.out⟩
set_option maxHeartbeats 2000000 in
theorem t4_one (op a b : Int) (w : World) (hn : ¬ (rowOf op).name = ⟨#[]⟩) (hf : ¬ (rowOf op).form = 0) (ha : isNum a = true) (h7 : ¬ (rowOf op).form = 7) (h8 : ¬ (rowOf op).form = 8) : Calls Tryd.prog 40 #[.agg #[.int .i64 op, .int .i64 a, .int .i64 b]] w (StrPost w ((rowOf op).name ++ ⟨#[32]⟩ ++ digitsOf a)) := by
  have HN := Lib.hid (name4_calls op)
  unfold NamePost nameOf at HN
  have HF := Lib.hid (form4_calls op)
  unfold IntPost at HF
  have hsz := name_small op
  generalize (rowOf op).name = nm at *
  generalize (rowOf op).form = fm at *
  have hb0 : Below w.heap.size w (w.alloc (.cells #[.int .i64 op, .int .i64 a, .int .i64 b] 27)) := below_alloc' (below_refl w)
  have HB0 := Lib.hid hb0
  have R0 := Lib.hid (heap_alloc_new w (.cells #[.int .i64 op, .int .i64 a, .int .i64 b] 27))
  have HSZ := Lib.hid hsz
  clear hb0 hsz
  have hne := str_nonempty hn
  have hf0 : (fm == 0) = false := beq_eq_false_iff_ne.2 hf
  clear hn hf
  go_enter Tryd.func40, Tryd.ntmps40
  go_wp2_with fail
  refine (HN.out _).mono ?_
  rintro e w1 ⟨rfl, hb⟩
  have HB1 := Lib.hid (below_then HB0.out hb)
  have R1 := Lib.hid ((hb.block _ (Array.getElem?_eq_some_iff.1 R0.out).1).trans R0.out)
  obtain ⟨c0, c1, c2⟩ := cells3' R1.out
  clear hb HN HB0 R0
  go_wp2_with fail
  refine (HF.out _).mono ?_
  rintro e w2 ⟨rfl, hb⟩
  have HB2 := Lib.hid (below_then HB1.out hb)
  have R2 := Lib.hid ((hb.block _ (Array.getElem?_eq_some_iff.1 R1.out).1).trans R1.out)
  clear hb HF HB1 R1 c0 c1 c2
  obtain ⟨c0, c1, c2⟩ := cells3' R2.out
  have h7b : (fm != 7) = true := bne_iff_ne.2 h7
  have h8b : (fm != 8) = true := bne_iff_ne.2 h8
  clear h7 h8
  have HI := Lib.hid (is1_calls a)
  have HD := Lib.hid (digits1_calls a ha w2)
  unfold StrPost at HD
  have hda := digits_size ha
  rw [ha] at HI
  clear ha
  generalize digitsOf a = da at *
  have hs1 : ¬ (9223372036854775807 : Nat) < nm.size + 1 := by have := HSZ.out; omega
  have hs2 : ¬ (9223372036854775807 : Nat) < nm.size + 1 + da.size := by have := HSZ.out; omega
  have hs3 : ¬ (9223372036854775807 : Nat) < nm.size + (1 + da.size) := by have := HSZ.out; omega
  have HDA := Lib.hid hda
  clear hda
  go_wp2_with (first | (go_at_call 84; refine (HI.out _).mono ?_; rintro e w' ⟨rfl, rfl⟩))
  refine HD.out.mono ?_
  rintro e w3 ⟨rfl, hb3⟩
  have HB3 := Lib.hid (below_then HB2.out hb3)
  have R3 := Lib.hid ((hb3.block _ (Array.getElem?_eq_some_iff.1 R2.out).1).trans R2.out)
  clear hb3 HD HI c0 c1 c2 HB2 R2
  obtain ⟨c0, c1, c2⟩ := cells3' R3.out
  go_wp2_with fail
  go_ret
  exact ⟨rfl, HB3.out⟩
set_option maxHeartbeats 2000000 in
theorem t4_two7_no (op a b : Int) (w : World) (hn : ¬ (rowOf op).name = ⟨#[]⟩) (hf : ¬ (rowOf op).form = 0) (ha : isNum a = true) (h7 : (rowOf op).form = 7) (hbn : isNum b = false) : Calls Tryd.prog 40 #[.agg #[.int .i64 op, .int .i64 a, .int .i64 b]] w (StrPost w (⟨#[]⟩)) := by
  have HN := Lib.hid (name4_calls op)
  unfold NamePost nameOf at HN
  have HF := Lib.hid (form4_calls op)
  unfold IntPost at HF
  have hsz := name_small op
  generalize (rowOf op).name = nm at *
  generalize (rowOf op).form = fm at *
  have hb0 : Below w.heap.size w (w.alloc (.cells #[.int .i64 op, .int .i64 a, .int .i64 b] 27)) := below_alloc' (below_refl w)
  have HB0 := Lib.hid hb0
  have R0 := Lib.hid (heap_alloc_new w (.cells #[.int .i64 op, .int .i64 a, .int .i64 b] 27))
  have HSZ := Lib.hid hsz
  clear hb0 hsz
  have hne := str_nonempty hn
  have hf0 : (fm == 0) = false := beq_eq_false_iff_ne.2 hf
  clear hn hf
  go_enter Tryd.func40, Tryd.ntmps40
  go_wp2_with fail
  refine (HN.out _).mono ?_
  rintro e w1 ⟨rfl, hb⟩
  have HB1 := Lib.hid (below_then HB0.out hb)
  have R1 := Lib.hid ((hb.block _ (Array.getElem?_eq_some_iff.1 R0.out).1).trans R0.out)
  obtain ⟨c0, c1, c2⟩ := cells3' R1.out
  clear hb HN HB0 R0
  go_wp2_with fail
  refine (HF.out _).mono ?_
  rintro e w2 ⟨rfl, hb⟩
  have HB2 := Lib.hid (below_then HB1.out hb)
  have R2 := Lib.hid ((hb.block _ (Array.getElem?_eq_some_iff.1 R1.out).1).trans R1.out)
  clear hb HF HB1 R1 c0 c1 c2
  obtain ⟨c0, c1, c2⟩ := cells3' R2.out
  have h7b : (fm != 7) = false := by rw [h7]; rfl
  clear h7
  have HI := Lib.hid (is1_calls a)
  have HD := Lib.hid (digits1_calls a ha w2)
  unfold StrPost at HD
  have hda := digits_size ha
  rw [ha] at HI
  clear ha
  generalize digitsOf a = da at *
  have hs1 : ¬ (9223372036854775807 : Nat) < nm.size + 1 := by have := HSZ.out; omega
  have hs2 : ¬ (9223372036854775807 : Nat) < nm.size + 1 + da.size := by have := HSZ.out; omega
  have hs3 : ¬ (9223372036854775807 : Nat) < nm.size + (1 + da.size) := by have := HSZ.out; omega
  have HDA := Lib.hid hda
  clear hda
  go_wp2_with (first | (go_at_call 84; refine (HI.out _).mono ?_; rintro e w' ⟨rfl, rfl⟩))
  refine HD.out.mono ?_
  rintro e w3 ⟨rfl, hb3⟩
  have HB3 := Lib.hid (below_then HB2.out hb3)
  have R3 := Lib.hid ((hb3.block _ (Array.getElem?_eq_some_iff.1 R2.out).1).trans R2.out)
  clear hb3 HD HI c0 c1 c2 HB2 R2
  obtain ⟨c0, c1, c2⟩ := cells3' R3.out
  have HIb := Lib.hid (is1_calls b)
  rw [hbn] at HIb
  clear hbn
  go_wp2_with (first | (go_at_call 84; refine (HIb.out _).mono ?_; rintro e w' ⟨rfl, rfl⟩))
  go_ret
  exact ⟨rfl, HB3.out⟩
set_option maxHeartbeats 2000000 in
theorem t4_two7 (op a b : Int) (w : World) (hn : ¬ (rowOf op).name = ⟨#[]⟩) (hf : ¬ (rowOf op).form = 0) (ha : isNum a = true) (h7 : (rowOf op).form = 7) (hbn : isNum b = true) : Calls Tryd.prog 40 #[.agg #[.int .i64 op, .int .i64 a, .int .i64 b]] w (StrPost w ((rowOf op).name ++ ⟨#[32]⟩ ++ digitsOf a ++ ⟨#[32]⟩ ++ digitsOf b)) := by
  have HN := Lib.hid (name4_calls op)
  unfold NamePost nameOf at HN
  have HF := Lib.hid (form4_calls op)
  unfold IntPost at HF
  have hsz := name_small op
  generalize (rowOf op).name = nm at *
  generalize (rowOf op).form = fm at *
  have hb0 : Below w.heap.size w (w.alloc (.cells #[.int .i64 op, .int .i64 a, .int .i64 b] 27)) := below_alloc' (below_refl w)
  have HB0 := Lib.hid hb0
  have R0 := Lib.hid (heap_alloc_new w (.cells #[.int .i64 op, .int .i64 a, .int .i64 b] 27))
  have HSZ := Lib.hid hsz
  clear hb0 hsz
  have hne := str_nonempty hn
  have hf0 : (fm == 0) = false := beq_eq_false_iff_ne.2 hf
  clear hn hf
  go_enter Tryd.func40, Tryd.ntmps40
  go_wp2_with fail
  refine (HN.out _).mono ?_
  rintro e w1 ⟨rfl, hb⟩
  have HB1 := Lib.hid (below_then HB0.out hb)
  have R1 := Lib.hid ((hb.block _ (Array.getElem?_eq_some_iff.1 R0.out).1).trans R0.out)
  obtain ⟨c0, c1, c2⟩ := cells3' R1.out
  clear hb HN HB0 R0
  go_wp2_with fail
  refine (HF.out _).mono ?_
  rintro e w2 ⟨rfl, hb⟩
  have HB2 := Lib.hid (below_then HB1.out hb)
  have R2 := Lib.hid ((hb.block _ (Array.getElem?_eq_some_iff.1 R1.out).1).trans R1.out)
  clear hb HF HB1 R1 c0 c1 c2
  obtain ⟨c0, c1, c2⟩ := cells3' R2.out
  have h7b : (fm != 7) = false := by rw [h7]; rfl
  clear h7
  have HI := Lib.hid (is1_calls a)
  have HD := Lib.hid (digits1_calls a ha w2)
  unfold StrPost at HD
  have hda := digits_size ha
  rw [ha] at HI
  clear ha
  generalize digitsOf a = da at *
  have hs1 : ¬ (9223372036854775807 : Nat) < nm.size + 1 := by have := HSZ.out; omega
  have hs2 : ¬ (9223372036854775807 : Nat) < nm.size + 1 + da.size := by have := HSZ.out; omega
  have hs3 : ¬ (9223372036854775807 : Nat) < nm.size + (1 + da.size) := by have := HSZ.out; omega
  have HDA := Lib.hid hda
  clear hda
  go_wp2_with (first | (go_at_call 84; refine (HI.out _).mono ?_; rintro e w' ⟨rfl, rfl⟩))
  refine HD.out.mono ?_
  rintro e w3 ⟨rfl, hb3⟩
  have HB3 := Lib.hid (below_then HB2.out hb3)
  have R3 := Lib.hid ((hb3.block _ (Array.getElem?_eq_some_iff.1 R2.out).1).trans R2.out)
  clear hb3 HD HI c0 c1 c2 HB2 R2
  obtain ⟨c0, c1, c2⟩ := cells3' R3.out
  have HIb := Lib.hid (is1_calls b)
  have HDb := Lib.hid (digits1_calls b hbn w3)
  unfold StrPost at HDb
  have hdb := digits_size hbn
  rw [hbn] at HIb
  clear hbn
  generalize digitsOf b = db at *
  have hs4 : ¬ (9223372036854775807 : Nat) < nm.size + 1 + da.size + 1 := by have := HSZ.out; have := HDA.out; omega
  have hs5 : ¬ (9223372036854775807 : Nat) < nm.size + 1 + da.size + 1 + db.size := by have := HSZ.out; have := HDA.out; omega
  have hs6 : ¬ (9223372036854775807 : Nat) < nm.size + (1 + da.size) + 1 := by have := HSZ.out; have := HDA.out; omega
  clear hdb
  go_wp2_with (first | (go_at_call 84; refine (HIb.out _).mono ?_; rintro e w' ⟨rfl, rfl⟩))
  refine HDb.out.mono ?_
  rintro e w4 ⟨rfl, hb4⟩
  have HB4 := Lib.hid (below_then HB3.out hb4)
  clear hb4 HDb HIb
  go_wp2_with fail
  go_ret
  exact ⟨rfl, HB4.out⟩
set_option maxHeartbeats 2000000 in
theorem t4_two8_no (op a b : Int) (w : World) (hn : ¬ (rowOf op).name = ⟨#[]⟩) (hf : ¬ (rowOf op).form = 0) (ha : isNum a = true) (h7 : (rowOf op).form = 8) (hbn : isNum b = false) : Calls Tryd.prog 40 #[.agg #[.int .i64 op, .int .i64 a, .int .i64 b]] w (StrPost w (⟨#[]⟩)) := by
  have HN := Lib.hid (name4_calls op)
  unfold NamePost nameOf at HN
  have HF := Lib.hid (form4_calls op)
  unfold IntPost at HF
  have hsz := name_small op
  generalize (rowOf op).name = nm at *
  generalize (rowOf op).form = fm at *
  have hb0 : Below w.heap.size w (w.alloc (.cells #[.int .i64 op, .int .i64 a, .int .i64 b] 27)) := below_alloc' (below_refl w)
  have HB0 := Lib.hid hb0
  have R0 := Lib.hid (heap_alloc_new w (.cells #[.int .i64 op, .int .i64 a, .int .i64 b] 27))
  have HSZ := Lib.hid hsz
  clear hb0 hsz
  have hne := str_nonempty hn
  have hf0 : (fm == 0) = false := beq_eq_false_iff_ne.2 hf
  clear hn hf
  go_enter Tryd.func40, Tryd.ntmps40
  go_wp2_with fail
  refine (HN.out _).mono ?_
  rintro e w1 ⟨rfl, hb⟩
  have HB1 := Lib.hid (below_then HB0.out hb)
  have R1 := Lib.hid ((hb.block _ (Array.getElem?_eq_some_iff.1 R0.out).1).trans R0.out)
  obtain ⟨c0, c1, c2⟩ := cells3' R1.out
  clear hb HN HB0 R0
  go_wp2_with fail
  refine (HF.out _).mono ?_
  rintro e w2 ⟨rfl, hb⟩
  have HB2 := Lib.hid (below_then HB1.out hb)
  have R2 := Lib.hid ((hb.block _ (Array.getElem?_eq_some_iff.1 R1.out).1).trans R1.out)
  clear hb HF HB1 R1 c0 c1 c2
  obtain ⟨c0, c1, c2⟩ := cells3' R2.out
  have h7b : (fm != 7) = true := by rw [h7]; rfl
  have h8b : (fm != 8) = false := by rw [h7]; rfl
  clear h7
  have HI := Lib.hid (is1_calls a)
  have HD := Lib.hid (digits1_calls a ha w2)
  unfold StrPost at HD
  have hda := digits_size ha
  rw [ha] at HI
  clear ha
  generalize digitsOf a = da at *
  have hs1 : ¬ (9223372036854775807 : Nat) < nm.size + 1 := by have := HSZ.out; omega
  have hs2 : ¬ (9223372036854775807 : Nat) < nm.size + 1 + da.size := by have := HSZ.out; omega
  have hs3 : ¬ (9223372036854775807 : Nat) < nm.size + (1 + da.size) := by have := HSZ.out; omega
  have HDA := Lib.hid hda
  clear hda
  go_wp2_with (first | (go_at_call 84; refine (HI.out _).mono ?_; rintro e w' ⟨rfl, rfl⟩))
  refine HD.out.mono ?_
  rintro e w3 ⟨rfl, hb3⟩
  have HB3 := Lib.hid (below_then HB2.out hb3)
  have R3 := Lib.hid ((hb3.block _ (Array.getElem?_eq_some_iff.1 R2.out).1).trans R2.out)
  clear hb3 HD HI c0 c1 c2 HB2 R2
  obtain ⟨c0, c1, c2⟩ := cells3' R3.out
  have HIb := Lib.hid (is1_calls b)
  rw [hbn] at HIb
  clear hbn
  go_wp2_with (first | (go_at_call 84; refine (HIb.out _).mono ?_; rintro e w' ⟨rfl, rfl⟩))
  go_ret
  exact ⟨rfl, HB3.out⟩
set_option maxHeartbeats 2000000 in
theorem t4_two8 (op a b : Int) (w : World) (hn : ¬ (rowOf op).name = ⟨#[]⟩) (hf : ¬ (rowOf op).form = 0) (ha : isNum a = true) (h7 : (rowOf op).form = 8) (hbn : isNum b = true) : Calls Tryd.prog 40 #[.agg #[.int .i64 op, .int .i64 a, .int .i64 b]] w (StrPost w ((rowOf op).name ++ ⟨#[32]⟩ ++ digitsOf a ++ ⟨#[32]⟩ ++ digitsOf b)) := by
  have HN := Lib.hid (name4_calls op)
  unfold NamePost nameOf at HN
  have HF := Lib.hid (form4_calls op)
  unfold IntPost at HF
  have hsz := name_small op
  generalize (rowOf op).name = nm at *
  generalize (rowOf op).form = fm at *
  have hb0 : Below w.heap.size w (w.alloc (.cells #[.int .i64 op, .int .i64 a, .int .i64 b] 27)) := below_alloc' (below_refl w)
  have HB0 := Lib.hid hb0
  have R0 := Lib.hid (heap_alloc_new w (.cells #[.int .i64 op, .int .i64 a, .int .i64 b] 27))
  have HSZ := Lib.hid hsz
  clear hb0 hsz
  have hne := str_nonempty hn
  have hf0 : (fm == 0) = false := beq_eq_false_iff_ne.2 hf
  clear hn hf
  go_enter Tryd.func40, Tryd.ntmps40
  go_wp2_with fail
  refine (HN.out _).mono ?_
  rintro e w1 ⟨rfl, hb⟩
  have HB1 := Lib.hid (below_then HB0.out hb)
  have R1 := Lib.hid ((hb.block _ (Array.getElem?_eq_some_iff.1 R0.out).1).trans R0.out)
  obtain ⟨c0, c1, c2⟩ := cells3' R1.out
  clear hb HN HB0 R0
  go_wp2_with fail
  refine (HF.out _).mono ?_
  rintro e w2 ⟨rfl, hb⟩
  have HB2 := Lib.hid (below_then HB1.out hb)
  have R2 := Lib.hid ((hb.block _ (Array.getElem?_eq_some_iff.1 R1.out).1).trans R1.out)
  clear hb HF HB1 R1 c0 c1 c2
  obtain ⟨c0, c1, c2⟩ := cells3' R2.out
  have h7b : (fm != 7) = true := by rw [h7]; rfl
  have h8b : (fm != 8) = false := by rw [h7]; rfl
  clear h7
  have HI := Lib.hid (is1_calls a)
  have HD := Lib.hid (digits1_calls a ha w2)
  unfold StrPost at HD
  have hda := digits_size ha
  rw [ha] at HI
  clear ha
  generalize digitsOf a = da at *
  have hs1 : ¬ (9223372036854775807 : Nat) < nm.size + 1 := by have := HSZ.out; omega
  have hs2 : ¬ (9223372036854775807 : Nat) < nm.size + 1 + da.size := by have := HSZ.out; omega
  have hs3 : ¬ (9223372036854775807 : Nat) < nm.size + (1 + da.size) := by have := HSZ.out; omega
  have HDA := Lib.hid hda
  clear hda
  go_wp2_with (first | (go_at_call 84; refine (HI.out _).mono ?_; rintro e w' ⟨rfl, rfl⟩))
  refine HD.out.mono ?_
  rintro e w3 ⟨rfl, hb3⟩
  have HB3 := Lib.hid (below_then HB2.out hb3)
  have R3 := Lib.hid ((hb3.block _ (Array.getElem?_eq_some_iff.1 R2.out).1).trans R2.out)
  clear hb3 HD HI c0 c1 c2 HB2 R2
  obtain ⟨c0, c1, c2⟩ := cells3' R3.out
  have HIb := Lib.hid (is1_calls b)
  have HDb := Lib.hid (digits1_calls b hbn w3)
  unfold StrPost at HDb
  have hdb := digits_size hbn
  rw [hbn] at HIb
  clear hbn
  generalize digitsOf b = db at *
  have hs4 : ¬ (9223372036854775807 : Nat) < nm.size + 1 + da.size + 1 := by have := HSZ.out; have := HDA.out; omega
  have hs5 : ¬ (9223372036854775807 : Nat) < nm.size + 1 + da.size + 1 + db.size := by have := HSZ.out; have := HDA.out; omega
  have hs6 : ¬ (9223372036854775807 : Nat) < nm.size + (1 + da.size) + 1 := by have := HSZ.out; have := HDA.out; omega
  clear hdb
  go_wp2_with (first | (go_at_call 84; refine (HIb.out _).mono ?_; rintro e w' ⟨rfl, rfl⟩))
  refine HDb.out.mono ?_
  rintro e w4 ⟨rfl, hb4⟩
  have HB4 := Lib.hid (below_then HB3.out hb4)
  clear hb4 HDb HIb
  go_wp2_with fail
  go_ret
  exact ⟨rfl, HB4.out⟩
theorem text4_calls (op a b : Int) (w : World) : Calls Tryd.prog 40 #[.agg #[.int .i64 op, .int .i64 a, .int .i64 b]] w (StrPost w (textM ⟨op, a, b⟩)) := by
  rw [← text4_eq]
  unfold text4
  by_cases hf : (rowOf op).form = 0
  · rw [if_pos (.inr hf)]; exact t4_zero op a b w hf
  by_cases hn : (rowOf op).name = ⟨#[]⟩
  · rw [if_pos (.inl hn)]; exact t4_empty op a b w hn hf
  rw [if_neg (not_or.2 ⟨hn, hf⟩)]
  cases ha : isNum a with
  | false => rw [if_neg (by decide)]; exact t4_nonum op a b w hn hf ha
  | true =>
    rw [if_pos rfl]
    by_cases h7 : (rowOf op).form = 7
    · rw [if_pos (by rw [h7]; rfl)]
      cases hb : isNum b with
      | false => rw [if_neg (by decide)]; exact t4_two7_no op a b w hn hf ha h7 hb
      | true => rw [if_pos rfl]; exact t4_two7 op a b w hn hf ha h7 hb
    by_cases h8 : (rowOf op).form = 8
    · rw [if_pos (by rw [h8]; rfl)]
      cases hb : isNum b with
      | false => rw [if_neg (by decide)]; exact t4_two8_no op a b w hn hf ha h8 hb
      | true => rw [if_pos rfl]; exact t4_two8 op a b w hn hf ha h8 hb
    rw [if_neg (by rw [twoB_of h7 h8]; decide)]
    exact t4_one op a b w hn hf ha h7 h8
end Go.Proofs.YtdilmfnijkjiaaaDoor.K
