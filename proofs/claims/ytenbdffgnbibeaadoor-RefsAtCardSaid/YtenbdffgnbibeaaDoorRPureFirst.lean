/- UTF-8, plainly: the first character of a text. -/
import Derived.Test.YtenbdffgnbibeaaDoorRPureUtf
import Derived.Test.YtenbdffgnbibeaaDoorR2
import Derived.Test.YtenbdffgnbibeaaDoorR6
namespace Go.Proofs.YtenbdffgnbibeaaDoor.R
open Go.RowKit Go.Proofs.YtenbdffgnbibeaaDoorW.PrintWords Go.Proofs.YtenbdffgnbibeaaDoorW.PrintLast

/-- A byte that goes on. -/
def ct (x : Int) : Bool := decide (128 ≤ x) && decide (x ≤ 191)
theorem ct_iff {x : Int} : ct x = true ↔ 128 ≤ x ∧ x ≤ 191 := by simp [ct]
def bad : Int × Int × Bool := (65533, 1, false)
/-- What stands first, of four bytes (-1: there is none). -/
def dec (x0 x1 x2 x3 : Int) : Int × Int × Bool :=
  if x0 < 128 then (x0, 1, true)
  else if x0 < 192 then bad
  else if x0 < 224 then (if ct x1 = true then (if 128 ≤ (x0 - 192) * 64 + x1 % 64 then ((x0 - 192) * 64 + x1 % 64, 2, true) else bad) else bad)
  else if x0 < 240 then (if ct x1 = true then (if ct x2 = true then (if isC (((x0 - 224) * 64 + x1 % 64) * 64 + x2 % 64) = true ∧ 2048 ≤ ((x0 - 224) * 64 + x1 % 64) * 64 + x2 % 64 then (((x0 - 224) * 64 + x1 % 64) * 64 + x2 % 64, 3, true) else bad) else bad) else bad)
  else if x0 < 248 then (if ct x1 = true then (if ct x2 = true then (if ct x3 = true then (if isC ((((x0 - 240) * 64 + x1 % 64) * 64 + x2 % 64) * 64 + x3 % 64) = true ∧ 65536 ≤ (((x0 - 240) * 64 + x1 % 64) * 64 + x2 % 64) * 64 + x3 % 64 then ((((x0 - 240) * 64 + x1 % 64) * 64 + x2 % 64) * 64 + x3 % 64, 4, true) else bad) else bad) else bad) else bad)
  else bad
def decL (l : List Int) : Int × Int × Bool := dec (l.getD 0 (-1)) (l.getD 1 (-1)) (l.getD 2 (-1)) (l.getD 3 (-1))
/-- How many bytes a character has, by its first byte. -/
def lng (b : Int) : Int := if b < 128 then 1 else if b < 192 then 0 else if b < 224 then 2 else if b < 240 then 3 else if b < 248 then 4 else 0
theorem long_ev (b : Int) : Ev (fun k => utf_long.f k b) (lng b) := by
  unfold utf_long.f
  by_cases h1 : b < 128
  · exact Ev.cast (Ev.ite_pos h1 (Ev.now 1)) (by unfold lng; rw [if_pos h1])
  refine Ev.ite_neg h1 ?_
  by_cases h2 : b < 192
  · exact Ev.cast (Ev.ite_pos h2 (Ev.step (fun k => by rw [utf_long.j0]) (Ev.ite_pos rfl (Ev.now 0)))) (by unfold lng; rw [if_neg h1, if_pos h2])
  refine Ev.ite_neg h2 (Ev.step (fun k => by rw [utf_long.j0]) ?_)
  by_cases h5 : b ≥ 248
  · exact Ev.cast (Ev.ite_pos (by simpa using h5) (Ev.now 0)) (by unfold lng; rw [if_neg h1, if_neg h2, if_neg (by omega), if_neg (by omega), if_neg (by omega)])
  refine Ev.ite_neg (by simpa using h5) ?_
  by_cases h3 : b < 224
  · exact Ev.cast (Ev.ite_pos h3 (Ev.now 2)) (by unfold lng; rw [if_neg h1, if_neg h2, if_pos h3])
  refine Ev.ite_neg h3 ?_
  by_cases h4 : b < 240
  · exact Ev.cast (Ev.ite_pos h4 (Ev.now 3)) (by unfold lng; rw [if_neg h1, if_neg h2, if_neg h3, if_pos h4])
  exact Ev.cast (Ev.ite_neg h4 (Ev.now 4)) (by unfold lng; rw [if_neg h1, if_neg h2, if_neg h3, if_neg h4, if_pos (by omega)])
def least (n : Int) : Int := if n = 1 then 0 else if n = 2 then 128 else if n = 3 then 2048 else 65536
section
variable {s : ByteArray} {n c i : Int} {r : Int × Int}
theorem l_go (hi0 : 0 ≤ i) (hi : i < n) (hs : i < s.size) (hn : n ≤ 4) (hc0 : 0 ≤ c) (hc1 : c < 4294967296) (hct : ct (bt s i) = true) (h : Ev (fun k => utf_First.l0 k s n (c * 64 + bt s i % 64) (i + 1)) r) : Ev (fun k => utf_First.l0 k s n c i) r := by
  have hb := bt_range s i
  refine Ev.step (fun k => by rw [utf_First.l0]) (Ev.ite_pos hi (Ev.ite_pos hi0 (Ev.ite_pos hs (Ev.ite_pos ((and192 hb.1 hb.2).2 (ct_iff.1 hct)) ?_))))
  rw [u8_and63 _ hb.1 (by omega), w64 (by omega) (by omega), w64 (by omega) (by omega), w64 (by omega) (by omega), i64_or6 hc0 hc1 (by omega) (by omega)]
  exact h
theorem l_bad (hi0 : 0 ≤ i) (hi : i < n) (hs : i < s.size) (hct : ¬ ct (bt s i) = true) : Ev (fun k => utf_First.l0 k s n c i) (65533, 1) := by
  have hb := bt_range s i
  exact Ev.step (fun k => by rw [utf_First.l0]) (Ev.ite_pos hi (Ev.ite_pos hi0 (Ev.ite_pos hs (Ev.ite_neg (fun e => hct (ct_iff.2 ((and192 hb.1 hb.2).1 e))) (Ev.now _)))))
theorem l_end (hn : n = 1 ∨ n = 2 ∨ n = 3 ∨ n = 4) : Ev (fun k => utf_First.l0 k s n c n) (if isC c = true ∧ least n ≤ c then (c, n) else (65533, 1)) := by
  refine Ev.step (fun k => by rw [utf_First.l0]) (Ev.ite_neg (by omega) ?_)
  refine Ev.bind (Ev.pure fun _ => is_f c) ?_
  by_cases h : isC c = true
  · refine Ev.ite_pos h (Ev.ite_pos (by omega) (Ev.ite_pos (by omega) ?_))
    have e : (rd_T59 tab_0 n).f1 = least n := by rcases hn with rfl | rfl | rfl | rfl <;> rfl
    rw [e]
    by_cases h2 : c < least n
    · exact Ev.cast (Ev.ite_pos h2 (Ev.now _)) (if_neg (by omega)).symm
    · exact Ev.cast (Ev.ite_neg h2 (Ev.now _)) (if_pos ⟨h, by omega⟩).symm
  · exact Ev.cast (Ev.ite_neg h (Ev.now _)) (if_neg (fun e => h e.1)).symm
end
def two (r : Int × Int × Bool) : Int × Int := (r.1, r.2.1)
theorem getD_lt {l : List Int} {i : Nat} (h : l.length ≤ i) : l.getD i (-1) = -1 := by rw [List.getD_eq_getElem?_getD, List.getElem?_eq_none h]; rfl
theorem ct_m1 : ¬ ct (-1) = true := by decide
theorem t1 : (rd_T59 tab_0 1).f0 = 0 := rfl
theorem t2 : (rd_T59 tab_0 2).f0 = 192 := rfl
theorem t3 : (rd_T59 tab_0 3).f0 = 224 := rfl
theorem t4 : (rd_T59 tab_0 4).f0 = 240 := rfl
/-- The program's first character. -/
theorem first_ev (s : ByteArray) (h0 : bl s ≠ []) : Ev (fun k => utf_First.f k s) (two (decL (bl s))) := by
  have hl : 0 < s.size := by rw [← bl_length]; exact List.length_pos_iff.2 h0
  have hbl := bl_length s
  have B : ∀ i : Nat, i < s.size → (bl s).getD i (-1) = bt s (i : Int) := fun i hi => (bt_of rfl (by rw [bl_length]; exact hi)).symm
  have hb := bt_range s 0
  unfold utf_First.f
  refine Ev.ite_neg (fun e => h0 (bl_nil.1 e)) (Ev.ite_pos (by omega) (Ev.bind (long_ev _) ?_))
  have b0 := B 0 hl
  simp only [Int.natCast_zero] at b0
  unfold decL dec
  rw [b0]
  have dig : ∀ m : Int, ¬ m = 0 → 0 ≤ m → m < 5 → m ≤ s.size → ∀ r, Ev (fun k => utf_First.l0 k s m (bt s 0 - (rd_T59 tab_0 m).f0) 1) r → 0 ≤ (rd_T59 tab_0 m).f0 → (rd_T59 tab_0 m).f0 ≤ 240 →
      Ev (fun k => if m = 0 then utf_First.j0 k s m true else utf_First.j0 k s m (decide (m > (s.size : Int)))) r := fun m m0 m1 m2 m3 r hr t0 t1 => by
    refine Ev.ite_neg m0 (Ev.step (fun k => by rw [utf_First.j0]) (Ev.ite_neg (by simp; omega) (Ev.ite_pos (by omega) (Ev.ite_pos m1 (Ev.ite_pos m2 ?_)))))
    rw [w64 (x := bt s 0) (by omega) (by omega), w64 (by omega) (by omega)]
    exact hr
  have far : ∀ m : Int, ¬ m = 0 → (s.size : Int) < m → Ev (fun k => if m = 0 then utf_First.j0 k s m true else utf_First.j0 k s m (decide (m > (s.size : Int)))) (65533, 1) := fun m m0 m1 =>
    Ev.ite_neg m0 (Ev.step (fun k => by rw [utf_First.j0]) (Ev.ite_pos (by simpa using m1) (Ev.now _)))
  by_cases a1 : bt s 0 < 128
  · rw [show lng (bt s 0) = 1 by unfold lng; rw [if_pos a1], if_pos a1]
    refine dig 1 (by decide) (by decide) (by decide) (by omega) _ ?_ (by decide) (by decide)
    rw [t1]
    refine Ev.cast (l_end (.inl rfl)) ?_
    rw [Int.sub_zero, if_pos ⟨isC_iff.2 (by omega), by simpa [least] using hb.1⟩]
    rfl
  rw [if_neg a1]
  by_cases a2 : bt s 0 < 192
  · rw [show lng (bt s 0) = 0 by unfold lng; rw [if_neg a1, if_pos a2], if_pos a2]
    exact Ev.ite_pos rfl (Ev.step (fun k => by rw [utf_First.j0]) (Ev.ite_pos rfl (Ev.now (65533, 1))))
  rw [if_neg a2]
  by_cases a3 : bt s 0 < 224
  · rw [show lng (bt s 0) = 2 by unfold lng; rw [if_neg a1, if_neg a2, if_pos a3], if_pos a3]
    by_cases z : s.size < 2
    · rw [getD_lt (by omega : (bl s).length ≤ 1), if_neg ct_m1]
      exact far 2 (by decide) (by omega)
    rw [B 1 (by omega)]
    refine dig 2 (by decide) (by decide) (by decide) (by omega) _ ?_ (by decide) (by decide)
    rw [t2]
    by_cases c1 : ct (bt s 1) = true
    · have c1' := ct_iff.1 c1
      refine l_go (by omega) (by omega) (by omega) (by omega) (by omega) (by omega) c1 ?_
      refine Ev.cast (l_end (.inr (.inl rfl))) ?_
      rw [show ((1 : Nat) : Int) = 1 from rfl, if_pos c1]
      by_cases q : 128 ≤ (bt s 0 - 192) * 64 + bt s 1 % 64
      · rw [if_pos q, if_pos ⟨isC_iff.2 (by omega), q⟩]; rfl
      · rw [if_neg q, if_neg (fun e => q e.2)]; rfl
    · rw [show ((1 : Nat) : Int) = 1 from rfl, if_neg c1]
      exact l_bad (by omega) (by omega) (by omega) c1
  rw [if_neg a3]
  by_cases a4 : bt s 0 < 240
  · rw [show lng (bt s 0) = 3 by unfold lng; rw [if_neg a1, if_neg a2, if_neg a3, if_pos a4], if_pos a4]
    by_cases z : s.size < 3
    · rw [getD_lt (by omega : (bl s).length ≤ 2), if_neg ct_m1, ite_self]
      exact far 3 (by decide) (by omega)
    rw [B 1 (by omega), B 2 (by omega), show ((1 : Nat) : Int) = 1 from rfl, show ((2 : Nat) : Int) = 2 from rfl]
    refine dig 3 (by decide) (by decide) (by decide) (by omega) _ ?_ (by decide) (by decide)
    rw [t3]
    by_cases c1 : ct (bt s 1) = true
    · have c1' := ct_iff.1 c1
      refine l_go (by omega) (by omega) (by omega) (by omega) (by omega) (by omega) c1 ?_
      rw [if_pos c1]
      by_cases c2 : ct (bt s 2) = true
      · have c2' := ct_iff.1 c2
        refine l_go (by omega) (by omega) (by omega) (by omega) (by omega) (by omega) c2 ?_
        rw [if_pos c2]
        refine Ev.cast (l_end (.inr (.inr (.inl rfl)))) ?_
        by_cases q : isC (((bt s 0 - 224) * 64 + bt s 1 % 64) * 64 + bt s 2 % 64) = true ∧ 2048 ≤ ((bt s 0 - 224) * 64 + bt s 1 % 64) * 64 + bt s 2 % 64
        · rw [if_pos q, if_pos ⟨q.1, q.2⟩]; rfl
        · rw [if_neg q, if_neg (fun e => q ⟨e.1, e.2⟩)]; rfl
      · rw [if_neg c2]
        exact l_bad (by omega) (by omega) (by omega) c2
    · rw [if_neg c1]
      exact l_bad (by omega) (by omega) (by omega) c1
  rw [if_neg a4]
  by_cases a5 : bt s 0 < 248
  · rw [show lng (bt s 0) = 4 by unfold lng; rw [if_neg a1, if_neg a2, if_neg a3, if_neg a4, if_pos a5], if_pos a5]
    by_cases z : s.size < 4
    · rw [getD_lt (by omega : (bl s).length ≤ 3), if_neg ct_m1, ite_self, ite_self]
      exact far 4 (by decide) (by omega)
    rw [B 1 (by omega), B 2 (by omega), B 3 (by omega), show ((1 : Nat) : Int) = 1 from rfl, show ((2 : Nat) : Int) = 2 from rfl, show ((3 : Nat) : Int) = 3 from rfl]
    refine dig 4 (by decide) (by decide) (by decide) (by omega) _ ?_ (by decide) (by decide)
    rw [t4]
    by_cases c1 : ct (bt s 1) = true
    · have c1' := ct_iff.1 c1
      refine l_go (by omega) (by omega) (by omega) (by omega) (by omega) (by omega) c1 ?_
      rw [if_pos c1]
      by_cases c2 : ct (bt s 2) = true
      · have c2' := ct_iff.1 c2
        refine l_go (by omega) (by omega) (by omega) (by omega) (by omega) (by omega) c2 ?_
        rw [if_pos c2]
        by_cases c3 : ct (bt s 3) = true
        · have c3' := ct_iff.1 c3
          refine l_go (by omega) (by omega) (by omega) (by omega) (by omega) (by omega) c3 ?_
          rw [if_pos c3]
          refine Ev.cast (l_end (.inr (.inr (.inr rfl)))) ?_
          by_cases q : isC ((((bt s 0 - 240) * 64 + bt s 1 % 64) * 64 + bt s 2 % 64) * 64 + bt s 3 % 64) = true ∧ 65536 ≤ (((bt s 0 - 240) * 64 + bt s 1 % 64) * 64 + bt s 2 % 64) * 64 + bt s 3 % 64
          · rw [if_pos q, if_pos ⟨q.1, q.2⟩]; rfl
          · rw [if_neg q, if_neg (fun e => q ⟨e.1, e.2⟩)]; rfl
        · rw [if_neg c3]
          exact l_bad (by omega) (by omega) (by omega) c3
      · rw [if_neg c2]
        exact l_bad (by omega) (by omega) (by omega) c2
    · rw [if_neg c1]
      exact l_bad (by omega) (by omega) (by omega) c1
  · rw [show lng (bt s 0) = 0 by unfold lng; rw [if_neg a1, if_neg a2, if_neg a3, if_neg a4, if_neg a5], if_neg a5]
    exact Ev.ite_pos rfl (Ev.step (fun k => by rw [utf_First.j0]) (Ev.ite_pos rfl (Ev.now (65533, 1))))
end Go.Proofs.YtenbdffgnbibeaaDoor.R
