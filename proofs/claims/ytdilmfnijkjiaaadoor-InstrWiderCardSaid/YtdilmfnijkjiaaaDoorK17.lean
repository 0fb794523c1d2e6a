import Derived.Test.YtdilmfnijkjiaaaDoorK16
import Derived.StillTailTactics
import Derived.Deep.RegionHeld3
set_option maxRecDepth 100000
set_option linter.unusedSimpArgs false
set_option linter.unusedVariables false
namespace Go.Proofs.YtdilmfnijkjiaaaDoor.K
open Go.RowKit
theorem take_lit' (base s : Nat) (K : SK) (ns : List Int) (n : Nat) (hn : ns.length = n) (cs : Array Value) (hcs : cs = (nums ns).toArray) (w : World) (ls st : List Int) (err : Int) (h : SInv base s K w ls st err) (hl : n ≤ st.length) (hb : st.length ≤ 17592186044400) (hs : base ≤ s) :
    Calls Tryd.prog 101 #[.pointer (some ⟨s, 0, none⟩), .slice (some ⟨w.heap.size, 0, none⟩) n n] (w.alloc (.cells cs 3)) fun e w' => ∃ A c, e = .returned (.slice A n c) ∧ IntSl w' A c (st.drop (st.length - n)) ∧ Did base s K w ls (st.take (st.length - n)) (takeErr err ns (st.drop (st.length - n))) w' :=
  (take_lit base s K ns n hn cs hcs w ls st err h hl hb hs).mono fun e w' ⟨v, he, ho, hd, _⟩ => by
    obtain ⟨A, c, rfl, hsl⟩ := ho.sl
    exact ⟨A, c, by rw [he]; congr 2; simp; omega, hsl, hd⟩
set_option maxHeartbeats 1000000 in
theorem plain_0 (base s : Nat) (a b : Int) (g : Nat) (FA : Option Addr) (nf fc : Nat) (lo cd res : Int) (LV : Value) (w : World) (ls st : List Int) (h : SInv base s ⟨0, a, b, g, FA, nf, fc, lo, cd, res, LV⟩ w ls st 0) (hs : base ≤ s) (hb : st.length ≤ 17592186044300) :
    Calls Tryd.prog 64 #[.pointer (some ⟨s, 0, none⟩)] w (PlainPost base s ⟨0, a, b, g, FA, nf, fc, lo, cd, res, LV⟩ w ls (st) 0) := by
  obtain ⟨SV, h1, _⟩ := h.ex
  have c0 : w.cell? ⟨s, 0, none⟩ = some (.int .i64 0) := cell_of_row w s 0 _ _ _ h1
  have HD1 : Hid (Did base s ⟨0, a, b, g, FA, nf, fc, lo, cd, res, LV⟩ w ls st 0 w) := Lib.hid ⟨h, Below.refl _ _⟩
  clear h1 h
  go_enter Tryd.func64, Tryd.ntmps64
  go_wp2
  exact bodyPost_end (results_none rfl _ _ _) rfl ⟨rfl, HD1.out⟩
set_option maxHeartbeats 1000000 in
theorem plain_1 (base s : Nat) (a b : Int) (g : Nat) (FA : Option Addr) (nf fc : Nat) (lo cd res : Int) (LV : Value) (w : World) (ls st : List Int) (h : SInv base s ⟨1, a, b, g, FA, nf, fc, lo, cd, res, LV⟩ w ls st 0) (hs : base ≤ s) (hb : st.length ≤ 17592186044300) :
    Calls Tryd.prog 64 #[.pointer (some ⟨s, 0, none⟩)] w (PlainPost base s ⟨1, a, b, g, FA, nf, fc, lo, cd, res, LV⟩ w ls (st ++ [0]) 0) := by
  obtain ⟨SV, h1, _⟩ := h.ex
  have c0 : w.cell? ⟨s, 0, none⟩ = some (.int .i64 1) := cell_of_row w s 0 _ _ _ h1
  have HP := Lib.hid (put_lit base s _ [0] 1 rfl #[.int .i64 0] rfl w ls st 0 h (by omega) hs)
  clear h1 h
  go_enter Tryd.func64, Tryd.ntmps64
  go_wp2_with fail
  refine HP.out.mono ?_
  rintro e w1 ⟨rfl, hd⟩
  have HD1 := Lib.hid hd
  clear hd
  go_wp2
  exact bodyPost_end (results_none rfl _ _ _) rfl ⟨rfl, HD1.out⟩
set_option maxHeartbeats 1000000 in
theorem plain_2 (base s : Nat) (a b : Int) (g : Nat) (FA : Option Addr) (nf fc : Nat) (lo cd res : Int) (LV : Value) (w : World) (ls st : List Int) (h : SInv base s ⟨2, a, b, g, FA, nf, fc, lo, cd, res, LV⟩ w ls st 0) (hs : base ≤ s) (hb : st.length ≤ 17592186044300) :
    Calls Tryd.prog 64 #[.pointer (some ⟨s, 0, none⟩)] w (PlainPost base s ⟨2, a, b, g, FA, nf, fc, lo, cd, res, LV⟩ w ls (st ++ [1]) 0) := by
  obtain ⟨SV, h1, _⟩ := h.ex
  have c0 : w.cell? ⟨s, 0, none⟩ = some (.int .i64 2) := cell_of_row w s 0 _ _ _ h1
  have HP := Lib.hid (put_lit base s _ [1] 1 rfl #[.int .i64 1] rfl w ls st 0 h (by omega) hs)
  clear h1 h
  go_enter Tryd.func64, Tryd.ntmps64
  go_wp2_with fail
  refine HP.out.mono ?_
  rintro e w1 ⟨rfl, hd⟩
  have HD1 := Lib.hid hd
  clear hd
  go_wp2
  exact bodyPost_end (results_none rfl _ _ _) rfl ⟨rfl, HD1.out⟩
set_option maxHeartbeats 1000000 in
theorem plain_5 (base s : Nat) (a b : Int) (g : Nat) (FA : Option Addr) (nf fc : Nat) (lo cd res : Int) (LV : Value) (w : World) (ls st : List Int) (h : SInv base s ⟨5, a, b, g, FA, nf, fc, lo, cd, res, LV⟩ w ls st 0) (hs : base ≤ s) (hb : st.length ≤ 17592186044300) (hl : 1 ≤ st.length) :
    Calls Tryd.prog 64 #[.pointer (some ⟨s, 0, none⟩)] w (PlainPost base s ⟨5, a, b, g, FA, nf, fc, lo, cd, res, LV⟩ w ls ((st.take (st.length - 1))) (takeErr 0 [-1] (st.drop (st.length - 1)))) := by
  obtain ⟨SV, h1, _⟩ := h.ex
  have c0 : w.cell? ⟨s, 0, none⟩ = some (.int .i64 5) := cell_of_row w s 0 _ _ _ h1
  have HT := Lib.hid (take_lit' base s _ [-1] 1 rfl #[.int .i64 (-1)] rfl w ls st 0 h (by omega) (by omega) hs)
  clear h1 h
  go_enter Tryd.func64, Tryd.ntmps64
  go_wp2_with fail
  refine HT.out.mono ?_
  rintro e w1 ⟨A1, c1, rfl, ho, hd⟩
  have HD := Lib.hid hd
  clear ho hd
  have HD1 := HD
  go_wp2
  exact bodyPost_end (results_none rfl _ _ _) rfl ⟨rfl, HD1.out⟩
set_option maxHeartbeats 1000000 in
theorem plain_8 (base s : Nat) (a b : Int) (g : Nat) (FA : Option Addr) (nf fc : Nat) (lo cd res : Int) (LV : Value) (w : World) (ls st : List Int) (h : SInv base s ⟨8, a, b, g, FA, nf, fc, lo, cd, res, LV⟩ w ls st 0) (hs : base ≤ s) (hb : st.length ≤ 17592186044300) (hl : 2 ≤ st.length) :
    Calls Tryd.prog 64 #[.pointer (some ⟨s, 0, none⟩)] w (PlainPost base s ⟨8, a, b, g, FA, nf, fc, lo, cd, res, LV⟩ w ls ((st.take (st.length - 2)) ++ [0]) (takeErr 0 [0, 0] (st.drop (st.length - 2)))) := by
  obtain ⟨SV, h1, _⟩ := h.ex
  have c0 : w.cell? ⟨s, 0, none⟩ = some (.int .i64 8) := cell_of_row w s 0 _ _ _ h1
  have HT := Lib.hid (take_lit' base s _ [0, 0] 2 rfl #[.int .i64 0, .int .i64 0] rfl w ls st 0 h (by omega) (by omega) hs)
  clear h1 h
  go_enter Tryd.func64, Tryd.ntmps64
  go_wp2_with fail
  refine HT.out.mono ?_
  rintro e w1 ⟨A1, c1, rfl, ho, hd⟩
  have HD := Lib.hid hd
  clear ho hd
  go_wp2_with fail
  refine (put_lit base s _ [0] 1 rfl _ rfl w1 ls _ _ HD.out.inv (by simp; omega) hs).mono ?_
  rintro e w2 ⟨rfl, hd⟩
  have HD2 := Lib.hid (HD.out.trans hd)
  clear hd
  go_wp2
  exact bodyPost_end (results_none rfl _ _ _) rfl ⟨rfl, HD2.out⟩
set_option maxHeartbeats 1000000 in
theorem plain_9 (base s : Nat) (a b : Int) (g : Nat) (FA : Option Addr) (nf fc : Nat) (lo cd res : Int) (LV : Value) (w : World) (ls st : List Int) (h : SInv base s ⟨9, a, b, g, FA, nf, fc, lo, cd, res, LV⟩ w ls st 0) (hs : base ≤ s) (hb : st.length ≤ 17592186044300) (hl : 2 ≤ st.length) :
    Calls Tryd.prog 64 #[.pointer (some ⟨s, 0, none⟩)] w (PlainPost base s ⟨9, a, b, g, FA, nf, fc, lo, cd, res, LV⟩ w ls ((st.take (st.length - 2)) ++ [0]) (takeErr 0 [0, 0] (st.drop (st.length - 2)))) := by
  obtain ⟨SV, h1, _⟩ := h.ex
  have c0 : w.cell? ⟨s, 0, none⟩ = some (.int .i64 9) := cell_of_row w s 0 _ _ _ h1
  have HT := Lib.hid (take_lit' base s _ [0, 0] 2 rfl #[.int .i64 0, .int .i64 0] rfl w ls st 0 h (by omega) (by omega) hs)
  clear h1 h
  go_enter Tryd.func64, Tryd.ntmps64
  go_wp2_with fail
  refine HT.out.mono ?_
  rintro e w1 ⟨A1, c1, rfl, ho, hd⟩
  have HD := Lib.hid hd
  clear ho hd
  go_wp2_with fail
  refine (put_lit base s _ [0] 1 rfl _ rfl w1 ls _ _ HD.out.inv (by simp; omega) hs).mono ?_
  rintro e w2 ⟨rfl, hd⟩
  have HD2 := Lib.hid (HD.out.trans hd)
  clear hd
  go_wp2
  exact bodyPost_end (results_none rfl _ _ _) rfl ⟨rfl, HD2.out⟩
set_option maxHeartbeats 1000000 in
theorem plain_10 (base s : Nat) (a b : Int) (g : Nat) (FA : Option Addr) (nf fc : Nat) (lo cd res : Int) (LV : Value) (w : World) (ls st : List Int) (h : SInv base s ⟨10, a, b, g, FA, nf, fc, lo, cd, res, LV⟩ w ls st 0) (hs : base ≤ s) (hb : st.length ≤ 17592186044300) (hl : 2 ≤ st.length) :
    Calls Tryd.prog 64 #[.pointer (some ⟨s, 0, none⟩)] w (PlainPost base s ⟨10, a, b, g, FA, nf, fc, lo, cd, res, LV⟩ w ls ((st.take (st.length - 2)) ++ [0]) (takeErr 0 [0, 0] (st.drop (st.length - 2)))) := by
  obtain ⟨SV, h1, _⟩ := h.ex
  have c0 : w.cell? ⟨s, 0, none⟩ = some (.int .i64 10) := cell_of_row w s 0 _ _ _ h1
  have HT := Lib.hid (take_lit' base s _ [0, 0] 2 rfl #[.int .i64 0, .int .i64 0] rfl w ls st 0 h (by omega) (by omega) hs)
  clear h1 h
  go_enter Tryd.func64, Tryd.ntmps64
  go_wp2_with fail
  refine HT.out.mono ?_
  rintro e w1 ⟨A1, c1, rfl, ho, hd⟩
  have HD := Lib.hid hd
  clear ho hd
  go_wp2_with fail
  refine (put_lit base s _ [0] 1 rfl _ rfl w1 ls _ _ HD.out.inv (by simp; omega) hs).mono ?_
  rintro e w2 ⟨rfl, hd⟩
  have HD2 := Lib.hid (HD.out.trans hd)
  clear hd
  go_wp2
  exact bodyPost_end (results_none rfl _ _ _) rfl ⟨rfl, HD2.out⟩
set_option maxHeartbeats 1000000 in
theorem plain_11 (base s : Nat) (a b : Int) (g : Nat) (FA : Option Addr) (nf fc : Nat) (lo cd res : Int) (LV : Value) (w : World) (ls st : List Int) (h : SInv base s ⟨11, a, b, g, FA, nf, fc, lo, cd, res, LV⟩ w ls st 0) (hs : base ≤ s) (hb : st.length ≤ 17592186044300) (hl : 2 ≤ st.length) :
    Calls Tryd.prog 64 #[.pointer (some ⟨s, 0, none⟩)] w (PlainPost base s ⟨11, a, b, g, FA, nf, fc, lo, cd, res, LV⟩ w ls ((st.take (st.length - 2)) ++ [0]) (takeErr 0 [0, 0] (st.drop (st.length - 2)))) := by
  obtain ⟨SV, h1, _⟩ := h.ex
  have c0 : w.cell? ⟨s, 0, none⟩ = some (.int .i64 11) := cell_of_row w s 0 _ _ _ h1
  have HT := Lib.hid (take_lit' base s _ [0, 0] 2 rfl #[.int .i64 0, .int .i64 0] rfl w ls st 0 h (by omega) (by omega) hs)
  clear h1 h
  go_enter Tryd.func64, Tryd.ntmps64
  go_wp2_with fail
  refine HT.out.mono ?_
  rintro e w1 ⟨A1, c1, rfl, ho, hd⟩
  have HD := Lib.hid hd
  clear ho hd
  go_wp2_with fail
  refine (put_lit base s _ [0] 1 rfl _ rfl w1 ls _ _ HD.out.inv (by simp; omega) hs).mono ?_
  rintro e w2 ⟨rfl, hd⟩
  have HD2 := Lib.hid (HD.out.trans hd)
  clear hd
  go_wp2
  exact bodyPost_end (results_none rfl _ _ _) rfl ⟨rfl, HD2.out⟩
set_option maxHeartbeats 1000000 in
theorem plain_12 (base s : Nat) (a b : Int) (g : Nat) (FA : Option Addr) (nf fc : Nat) (lo cd res : Int) (LV : Value) (w : World) (ls st : List Int) (h : SInv base s ⟨12, a, b, g, FA, nf, fc, lo, cd, res, LV⟩ w ls st 0) (hs : base ≤ s) (hb : st.length ≤ 17592186044300) (hl : 2 ≤ st.length) :
    Calls Tryd.prog 64 #[.pointer (some ⟨s, 0, none⟩)] w (PlainPost base s ⟨12, a, b, g, FA, nf, fc, lo, cd, res, LV⟩ w ls ((st.take (st.length - 2)) ++ [0]) (takeErr 0 [0, 0] (st.drop (st.length - 2)))) := by
  obtain ⟨SV, h1, _⟩ := h.ex
  have c0 : w.cell? ⟨s, 0, none⟩ = some (.int .i64 12) := cell_of_row w s 0 _ _ _ h1
  have HT := Lib.hid (take_lit' base s _ [0, 0] 2 rfl #[.int .i64 0, .int .i64 0] rfl w ls st 0 h (by omega) (by omega) hs)
  clear h1 h
  go_enter Tryd.func64, Tryd.ntmps64
  go_wp2_with fail
  refine HT.out.mono ?_
  rintro e w1 ⟨A1, c1, rfl, ho, hd⟩
  have HD := Lib.hid hd
  clear ho hd
  go_wp2_with fail
  refine (put_lit base s _ [0] 1 rfl _ rfl w1 ls _ _ HD.out.inv (by simp; omega) hs).mono ?_
  rintro e w2 ⟨rfl, hd⟩
  have HD2 := Lib.hid (HD.out.trans hd)
  clear hd
  go_wp2
  exact bodyPost_end (results_none rfl _ _ _) rfl ⟨rfl, HD2.out⟩
set_option maxHeartbeats 1000000 in
theorem plain_13 (base s : Nat) (a b : Int) (g : Nat) (FA : Option Addr) (nf fc : Nat) (lo cd res : Int) (LV : Value) (w : World) (ls st : List Int) (h : SInv base s ⟨13, a, b, g, FA, nf, fc, lo, cd, res, LV⟩ w ls st 0) (hs : base ≤ s) (hb : st.length ≤ 17592186044300) (hl : 2 ≤ st.length) :
    Calls Tryd.prog 64 #[.pointer (some ⟨s, 0, none⟩)] w (PlainPost base s ⟨13, a, b, g, FA, nf, fc, lo, cd, res, LV⟩ w ls ((st.take (st.length - 2)) ++ [1]) (takeErr 0 [0, 0] (st.drop (st.length - 2)))) := by
  obtain ⟨SV, h1, _⟩ := h.ex
  have c0 : w.cell? ⟨s, 0, none⟩ = some (.int .i64 13) := cell_of_row w s 0 _ _ _ h1
  have HT := Lib.hid (take_lit' base s _ [0, 0] 2 rfl #[.int .i64 0, .int .i64 0] rfl w ls st 0 h (by omega) (by omega) hs)
  clear h1 h
  go_enter Tryd.func64, Tryd.ntmps64
  go_wp2_with fail
  refine HT.out.mono ?_
  rintro e w1 ⟨A1, c1, rfl, ho, hd⟩
  have HD := Lib.hid hd
  clear ho hd
  go_wp2_with fail
  refine (put_lit base s _ [1] 1 rfl _ rfl w1 ls _ _ HD.out.inv (by simp; omega) hs).mono ?_
  rintro e w2 ⟨rfl, hd⟩
  have HD2 := Lib.hid (HD.out.trans hd)
  clear hd
  go_wp2
  exact bodyPost_end (results_none rfl _ _ _) rfl ⟨rfl, HD2.out⟩
set_option maxHeartbeats 1000000 in
theorem plain_15 (base s : Nat) (a b : Int) (g : Nat) (FA : Option Addr) (nf fc : Nat) (lo cd res : Int) (LV : Value) (w : World) (ls st : List Int) (h : SInv base s ⟨15, a, b, g, FA, nf, fc, lo, cd, res, LV⟩ w ls st 0) (hs : base ≤ s) (hb : st.length ≤ 17592186044300) (hl : 1 ≤ st.length) :
    Calls Tryd.prog 64 #[.pointer (some ⟨s, 0, none⟩)] w (PlainPost base s ⟨15, a, b, g, FA, nf, fc, lo, cd, res, LV⟩ w ls ((st.take (st.length - 1)) ++ [1]) (takeErr 0 [1] (st.drop (st.length - 1)))) := by
  obtain ⟨SV, h1, _⟩ := h.ex
  have c0 : w.cell? ⟨s, 0, none⟩ = some (.int .i64 15) := cell_of_row w s 0 _ _ _ h1
  have HT := Lib.hid (take_lit' base s _ [1] 1 rfl #[.int .i64 1] rfl w ls st 0 h (by omega) (by omega) hs)
  clear h1 h
  go_enter Tryd.func64, Tryd.ntmps64
  go_wp2_with fail
  refine HT.out.mono ?_
  rintro e w1 ⟨A1, c1, rfl, ho, hd⟩
  have HD := Lib.hid hd
  clear ho hd
  go_wp2_with fail
  refine (put_lit base s _ [1] 1 rfl _ rfl w1 ls _ _ HD.out.inv (by simp; omega) hs).mono ?_
  rintro e w2 ⟨rfl, hd⟩
  have HD2 := Lib.hid (HD.out.trans hd)
  clear hd
  go_wp2
  exact bodyPost_end (results_none rfl _ _ _) rfl ⟨rfl, HD2.out⟩
set_option maxHeartbeats 1000000 in
theorem plain_16 (base s : Nat) (a b : Int) (g : Nat) (FA : Option Addr) (nf fc : Nat) (lo cd res : Int) (LV : Value) (w : World) (ls st : List Int) (h : SInv base s ⟨16, a, b, g, FA, nf, fc, lo, cd, res, LV⟩ w ls st 0) (hs : base ≤ s) (hb : st.length ≤ 17592186044300) (hl : 2 ≤ st.length) :
    Calls Tryd.prog 64 #[.pointer (some ⟨s, 0, none⟩)] w (PlainPost base s ⟨16, a, b, g, FA, nf, fc, lo, cd, res, LV⟩ w ls ((st.take (st.length - 2)) ++ [1]) (takeErr 0 [1, 1] (st.drop (st.length - 2)))) := by
  obtain ⟨SV, h1, _⟩ := h.ex
  have c0 : w.cell? ⟨s, 0, none⟩ = some (.int .i64 16) := cell_of_row w s 0 _ _ _ h1
  have HT := Lib.hid (take_lit' base s _ [1, 1] 2 rfl #[.int .i64 1, .int .i64 1] rfl w ls st 0 h (by omega) (by omega) hs)
  clear h1 h
  go_enter Tryd.func64, Tryd.ntmps64
  go_wp2_with fail
  refine HT.out.mono ?_
  rintro e w1 ⟨A1, c1, rfl, ho, hd⟩
  have HD := Lib.hid hd
  clear ho hd
  go_wp2_with fail
  refine (put_lit base s _ [1] 1 rfl _ rfl w1 ls _ _ HD.out.inv (by simp; omega) hs).mono ?_
  rintro e w2 ⟨rfl, hd⟩
  have HD2 := Lib.hid (HD.out.trans hd)
  clear hd
  go_wp2
  exact bodyPost_end (results_none rfl _ _ _) rfl ⟨rfl, HD2.out⟩
set_option maxHeartbeats 1000000 in
theorem plain_17 (base s : Nat) (a b : Int) (g : Nat) (FA : Option Addr) (nf fc : Nat) (lo cd res : Int) (LV : Value) (w : World) (ls st : List Int) (h : SInv base s ⟨17, a, b, g, FA, nf, fc, lo, cd, res, LV⟩ w ls st 0) (hs : base ≤ s) (hb : st.length ≤ 17592186044300) (hl : 2 ≤ st.length) :
    Calls Tryd.prog 64 #[.pointer (some ⟨s, 0, none⟩)] w (PlainPost base s ⟨17, a, b, g, FA, nf, fc, lo, cd, res, LV⟩ w ls ((st.take (st.length - 2)) ++ [1]) (takeErr 0 [1, 1] (st.drop (st.length - 2)))) := by
  obtain ⟨SV, h1, _⟩ := h.ex
  have c0 : w.cell? ⟨s, 0, none⟩ = some (.int .i64 17) := cell_of_row w s 0 _ _ _ h1
  have HT := Lib.hid (take_lit' base s _ [1, 1] 2 rfl #[.int .i64 1, .int .i64 1] rfl w ls st 0 h (by omega) (by omega) hs)
  clear h1 h
  go_enter Tryd.func64, Tryd.ntmps64
  go_wp2_with fail
  refine HT.out.mono ?_
  rintro e w1 ⟨A1, c1, rfl, ho, hd⟩
  have HD := Lib.hid hd
  clear ho hd
  go_wp2_with fail
  refine (put_lit base s _ [1] 1 rfl _ rfl w1 ls _ _ HD.out.inv (by simp; omega) hs).mono ?_
  rintro e w2 ⟨rfl, hd⟩
  have HD2 := Lib.hid (HD.out.trans hd)
  clear hd
  go_wp2
  exact bodyPost_end (results_none rfl _ _ _) rfl ⟨rfl, HD2.out⟩
set_option maxHeartbeats 1000000 in
theorem plain_18 (base s : Nat) (a b : Int) (g : Nat) (FA : Option Addr) (nf fc : Nat) (lo cd res : Int) (LV : Value) (w : World) (ls st : List Int) (h : SInv base s ⟨18, a, b, g, FA, nf, fc, lo, cd, res, LV⟩ w ls st 0) (hs : base ≤ s) (hb : st.length ≤ 17592186044300) :
    Calls Tryd.prog 64 #[.pointer (some ⟨s, 0, none⟩)] w (PlainPost base s ⟨18, a, b, g, FA, nf, fc, lo, cd, res, LV⟩ w ls (st) 0) := by
  obtain ⟨SV, h1, _⟩ := h.ex
  have c0 : w.cell? ⟨s, 0, none⟩ = some (.int .i64 18) := cell_of_row w s 0 _ _ _ h1
  have HD1 : Hid (Did base s ⟨18, a, b, g, FA, nf, fc, lo, cd, res, LV⟩ w ls st 0 w) := Lib.hid ⟨h, Below.refl _ _⟩
  clear h1 h
  go_enter Tryd.func64, Tryd.ntmps64
  go_wp2
  exact bodyPost_end (results_none rfl _ _ _) rfl ⟨rfl, HD1.out⟩
set_option maxHeartbeats 1000000 in
theorem plain_19 (base s : Nat) (a b : Int) (g : Nat) (FA : Option Addr) (nf fc : Nat) (lo cd res : Int) (LV : Value) (w : World) (ls st : List Int) (h : SInv base s ⟨19, a, b, g, FA, nf, fc, lo, cd, res, LV⟩ w ls st 0) (hs : base ≤ s) (hb : st.length ≤ 17592186044300) (hl : 1 ≤ st.length) :
    Calls Tryd.prog 64 #[.pointer (some ⟨s, 0, none⟩)] w (PlainPost base s ⟨19, a, b, g, FA, nf, fc, lo, cd, res, LV⟩ w ls ((st.take (st.length - 1))) (takeErr 0 [1] (st.drop (st.length - 1)))) := by
  obtain ⟨SV, h1, _⟩ := h.ex
  have c0 : w.cell? ⟨s, 0, none⟩ = some (.int .i64 19) := cell_of_row w s 0 _ _ _ h1
  have HT := Lib.hid (take_lit' base s _ [1] 1 rfl #[.int .i64 1] rfl w ls st 0 h (by omega) (by omega) hs)
  clear h1 h
  go_enter Tryd.func64, Tryd.ntmps64
  go_wp2_with fail
  refine HT.out.mono ?_
  rintro e w1 ⟨A1, c1, rfl, ho, hd⟩
  have HD := Lib.hid hd
  clear ho hd
  have HD1 := HD
  go_wp2
  exact bodyPost_end (results_none rfl _ _ _) rfl ⟨rfl, HD1.out⟩
set_option maxHeartbeats 1000000 in
theorem plain_35 (base s : Nat) (a b : Int) (g : Nat) (FA : Option Addr) (nf fc : Nat) (lo cd res : Int) (LV : Value) (w : World) (ls st : List Int) (h : SInv base s ⟨35, a, b, g, FA, nf, fc, lo, cd, res, LV⟩ w ls st 0) (hs : base ≤ s) (hb : st.length ≤ 17592186044300) (hl : 1 ≤ st.length) :
    Calls Tryd.prog 64 #[.pointer (some ⟨s, 0, none⟩)] w (PlainPost base s ⟨35, a, b, g, FA, nf, fc, lo, cd, res, LV⟩ w ls ((st.take (st.length - 1))) (takeErr 0 [0] (st.drop (st.length - 1)))) := by
  obtain ⟨SV, h1, _⟩ := h.ex
  have c0 : w.cell? ⟨s, 0, none⟩ = some (.int .i64 35) := cell_of_row w s 0 _ _ _ h1
  have HT := Lib.hid (take_lit' base s _ [0] 1 rfl #[.int .i64 0] rfl w ls st 0 h (by omega) (by omega) hs)
  clear h1 h
  go_enter Tryd.func64, Tryd.ntmps64
  go_wp2_with fail
  refine HT.out.mono ?_
  rintro e w1 ⟨A1, c1, rfl, ho, hd⟩
  have HD := Lib.hid hd
  clear ho hd
  have HD1 := HD
  go_wp2
  exact bodyPost_end (results_none rfl _ _ _) rfl ⟨rfl, HD1.out⟩
set_option maxHeartbeats 1000000 in
theorem plain_36 (base s : Nat) (a b : Int) (g : Nat) (FA : Option Addr) (nf fc : Nat) (lo cd res : Int) (LV : Value) (w : World) (ls st : List Int) (h : SInv base s ⟨36, a, b, g, FA, nf, fc, lo, cd, res, LV⟩ w ls st 0) (hs : base ≤ s) (hb : st.length ≤ 17592186044300) :
    Calls Tryd.prog 64 #[.pointer (some ⟨s, 0, none⟩)] w (PlainPost base s ⟨36, a, b, g, FA, nf, fc, lo, cd, res, LV⟩ w ls (st ++ [0]) 0) := by
  obtain ⟨SV, h1, _⟩ := h.ex
  have c0 : w.cell? ⟨s, 0, none⟩ = some (.int .i64 36) := cell_of_row w s 0 _ _ _ h1
  have HP := Lib.hid (put_lit base s _ [0] 1 rfl #[.int .i64 0] rfl w ls st 0 h (by omega) hs)
  clear h1 h
  go_enter Tryd.func64, Tryd.ntmps64
  go_wp2_with fail
  refine HP.out.mono ?_
  rintro e w1 ⟨rfl, hd⟩
  have HD1 := Lib.hid hd
  clear hd
  go_wp2
  exact bodyPost_end (results_none rfl _ _ _) rfl ⟨rfl, HD1.out⟩
set_option maxHeartbeats 1000000 in
theorem plain_37 (base s : Nat) (a b : Int) (g : Nat) (FA : Option Addr) (nf fc : Nat) (lo cd res : Int) (LV : Value) (w : World) (ls st : List Int) (h : SInv base s ⟨37, a, b, g, FA, nf, fc, lo, cd, res, LV⟩ w ls st 0) (hs : base ≤ s) (hb : st.length ≤ 17592186044300) :
    Calls Tryd.prog 64 #[.pointer (some ⟨s, 0, none⟩)] w (PlainPost base s ⟨37, a, b, g, FA, nf, fc, lo, cd, res, LV⟩ w ls (st) 0) := by
  obtain ⟨SV, h1, _⟩ := h.ex
  have c0 : w.cell? ⟨s, 0, none⟩ = some (.int .i64 37) := cell_of_row w s 0 _ _ _ h1
  have HD1 : Hid (Did base s ⟨37, a, b, g, FA, nf, fc, lo, cd, res, LV⟩ w ls st 0 w) := Lib.hid ⟨h, Below.refl _ _⟩
  clear h1 h
  go_enter Tryd.func64, Tryd.ntmps64
  go_wp2
  exact bodyPost_end (results_none rfl _ _ _) rfl ⟨rfl, HD1.out⟩
end Go.Proofs.YtdilmfnijkjiaaaDoor.K
