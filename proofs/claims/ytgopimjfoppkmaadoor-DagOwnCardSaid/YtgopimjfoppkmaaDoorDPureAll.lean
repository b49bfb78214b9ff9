/- UTF-8, plainly: what the bytes of a number are, and which character stands first: the program's functions and the reference's come to the same. -/
import Derived.Test.YtgopimjfoppkmaaDoorDPure0
import Derived.Test.YtgopimjfoppkmaaDoorD2
namespace Go.Proofs.YtgopimjfoppkmaaDoor.D
open Go.RowKit Go.Proofs.YtgopimjfoppkmaaDoorW.PrintWords Go.Proofs.YtgopimjfoppkmaaDoorW.PrintLast

/-- A character. -/
def isC (c : Int) : Bool := decide (0 ≤ c) && decide (c ≤ 1114111) && !(decide (55296 ≤ c) && decide (c ≤ 57343))
theorem isC_iff {c : Int} : isC c = true ↔ 0 ≤ c ∧ c ≤ 1114111 ∧ (c < 55296 ∨ 57343 < c) := by
  simp [isC]; omega
theorem is_f (c : Int) : utf_is.f c = some (isC c) := by
  unfold utf_is.f isC
  repeat' split
  all_goals (congr 1; rw [Bool.eq_iff_iff]; simp; omega)
/-- The bytes of a character. -/
def encB (c : Int) : List Int := if c < 128 then [c] else if c < 2048 then [192 + c / 64, 128 + c % 64] else if c < 65536 then [224 + c / 4096, 128 + c / 64 % 64, 128 + c % 64] else [240 + c / 262144, 128 + c / 4096 % 64, 128 + c / 64 % 64, 128 + c % 64]
def orC (c : Int) : Int := if isC c = true then c else 65533
theorem orC_is (c : Int) : isC (orC c) = true := by unfold orC; split; · assumption
                                                    · decide
def szC (c : Int) : Int := if c < 128 then 1 else if c < 2048 then 2 else if c < 65536 then 3 else 4
theorem tab1 : (rd_T83 tab_0 1) = ⟨0, 0⟩ := rfl
theorem tab2 : (rd_T83 tab_0 2) = ⟨192, 128⟩ := rfl
theorem tab3 : (rd_T83 tab_0 3) = ⟨224, 2048⟩ := rfl
theorem tab4 : (rd_T83 tab_0 4) = ⟨240, 65536⟩ := rfl
theorem m256 {x : Int} (h0 : 0 ≤ x) (h1 : x < 256) : x % 256 = x := Int.emod_eq_of_lt h0 h1
theorem wl1 : wrap64 (1 - 1) = 0 := by unfold wrap64; omega
theorem wl2 : wrap64 (2 - 1) = 1 := by unfold wrap64; omega
theorem wl3 : wrap64 (3 - 1) = 2 := by unfold wrap64; omega
theorem wl4 : wrap64 (4 - 1) = 3 := by unfold wrap64; omega
theorem low6 {x : Int} (h0 : 0 ≤ x) (h1 : x ≤ 1114111) : (Go.bits .or .i64 128 (Go.bits .and .i64 x 63)) % 256 = 128 + x % 64 := by
  rw [i64_and63 h0 (by omega), i64_or128 (by omega) (by omega)]
  omega
end Go.Proofs.YtgopimjfoppkmaaDoor.D
namespace Go.Proofs.YtgopimjfoppkmaaDoor.D
open Go.RowKit Go.Proofs.YtgopimjfoppkmaaDoorW.PrintWords Go.Proofs.YtgopimjfoppkmaaDoorW.PrintLast

/-- A byte that goes on. -/
def ct (x : Int) : Bool := decide (128 ≤ x) && decide (x ≤ 191)
theorem ct_iff {x : Int} : ct x = true ↔ 128 ≤ x ∧ x ≤ 191 := by simp [ct]
def bad : Int × Int × Bool := (65533, 1, false)
/-- What stands first, of four bytes (-1: there is none). -/
def dec (x0 x1 x2 x3 : Int) : Int × Int × Bool :=
  if x0 < 128 then (x0, 1, true)
  else if x0 < 192 then bad
  else if x0 < 224 then (if ct x1 = true then (if 128 ≤ (x0 - 192) * 64 + x1 % 64 then ((x0 - 192) * 64 + x1 % 64, 2, true) else bad) else bad)
  else if x0 < 240 then (if ct x1 = true then (if ct x2 = true then (if isC (((x0 - 224) * 64 + x1 % 64) * 64 + x2 % 64) = true ∧ 2048 ≤ ((x0 - 224) * 64 + x1 % 64) * 64 + x2 % 64 then (((x0 - 224) * 64 + x1 % 64) * 64 + x2 % 64, 3, true) else bad) else bad) else bad)
  else if x0 < 248 then (if ct x1 = true then (if ct x2 = true then (if ct x3 = true then (if isC ((((x0 - 240) * 64 + x1 % 64) * 64 + x2 % 64) * 64 + x3 % 64) = true ∧ 65536 ≤ (((x0 - 240) * 64 + x1 % 64) * 64 + x2 % 64) * 64 + x3 % 64 then ((((x0 - 240) * 64 + x1 % 64) * 64 + x2 % 64) * 64 + x3 % 64, 4, true) else bad) else bad) else bad) else bad)
  else bad
def decL (l : List Int) : Int × Int × Bool := dec (l.getD 0 (-1)) (l.getD 1 (-1)) (l.getD 2 (-1)) (l.getD 3 (-1))
/-- How many bytes a character has, by its first byte. -/
def lng (b : Int) : Int := if b < 128 then 1 else if b < 192 then 0 else if b < 224 then 2 else if b < 240 then 3 else if b < 248 then 4 else 0
theorem long_ev (b : Int) : Ev (fun k => utf_long.f k b) (lng b) := by
  unfold utf_long.f
  by_cases h1 : b < 128
  · exact Ev.cast (Ev.ite_pos h1 (Ev.now 1)) (by unfold lng; rw [if_pos h1])
  refine Ev.ite_neg h1 ?_
  by_cases h2 : b < 192
  · exact Ev.cast (Ev.ite_pos h2 (Ev.step (fun k => by rw [utf_long.j0]) (Ev.ite_pos rfl (Ev.now 0)))) (by unfold lng; rw [if_neg h1, if_pos h2])
  refine Ev.ite_neg h2 (Ev.step (fun k => by rw [utf_long.j0]) ?_)
  by_cases h5 : b ≥ 248
  · exact Ev.cast (Ev.ite_pos (by simpa using h5) (Ev.now 0)) (by unfold lng; rw [if_neg h1, if_neg h2, if_neg (by omega), if_neg (by omega), if_neg (by omega)])
  refine Ev.ite_neg (by simpa using h5) ?_
  by_cases h3 : b < 224
  · exact Ev.cast (Ev.ite_pos h3 (Ev.now 2)) (by unfold lng; rw [if_neg h1, if_neg h2, if_pos h3])
  refine Ev.ite_neg h3 ?_
  by_cases h4 : b < 240
  · exact Ev.cast (Ev.ite_pos h4 (Ev.now 3)) (by unfold lng; rw [if_neg h1, if_neg h2, if_neg h3, if_pos h4])
  exact Ev.cast (Ev.ite_neg h4 (Ev.now 4)) (by unfold lng; rw [if_neg h1, if_neg h2, if_neg h3, if_neg h4, if_pos (by omega)])
def least (n : Int) : Int := if n = 1 then 0 else if n = 2 then 128 else if n = 3 then 2048 else 65536
section
variable {s : ByteArray} {n c i : Int} {r : Int × Int}
theorem l_go (hi0 : 0 ≤ i) (hi : i < n) (hs : i < s.size) (hn : n ≤ 4) (hc0 : 0 ≤ c) (hc1 : c < 4294967296) (hct : ct (bt s i) = true) (h : Ev (fun k => utf_First.l0 k s n (c * 64 + bt s i % 64) (i + 1)) r) : Ev (fun k => utf_First.l0 k s n c i) r := by
  have hb := bt_range s i
  refine Ev.step (fun k => by rw [utf_First.l0]) (Ev.ite_pos hi (Ev.ite_pos hi0 (Ev.ite_pos hs (Ev.ite_pos ((and192 hb.1 hb.2).2 (ct_iff.1 hct)) ?_))))
  rw [u8_and63 _ hb.1 (by omega), w64 (by omega) (by omega), w64 (by omega) (by omega), w64 (by omega) (by omega), i64_or6 hc0 hc1 (by omega) (by omega)]
  exact h
theorem l_bad (hi0 : 0 ≤ i) (hi : i < n) (hs : i < s.size) (hct : ¬ ct (bt s i) = true) : Ev (fun k => utf_First.l0 k s n c i) (65533, 1) := by
  have hb := bt_range s i
  exact Ev.step (fun k => by rw [utf_First.l0]) (Ev.ite_pos hi (Ev.ite_pos hi0 (Ev.ite_pos hs (Ev.ite_neg (fun e => hct (ct_iff.2 ((and192 hb.1 hb.2).1 e))) (Ev.now _)))))
theorem l_end (hn : n = 1 ∨ n = 2 ∨ n = 3 ∨ n = 4) : Ev (fun k => utf_First.l0 k s n c n) (if isC c = true ∧ least n ≤ c then (c, n) else (65533, 1)) := by
  refine Ev.step (fun k => by rw [utf_First.l0]) (Ev.ite_neg (by omega) ?_)
  refine Ev.bind (Ev.pure fun _ => is_f c) ?_
  by_cases h : isC c = true
  · refine Ev.ite_pos h (Ev.ite_pos (by omega) (Ev.ite_pos (by omega) ?_))
    have e : (rd_T83 tab_0 n).f1 = least n := by rcases hn with rfl | rfl | rfl | rfl <;> rfl
    rw [e]
    by_cases h2 : c < least n
    · exact Ev.cast (Ev.ite_pos h2 (Ev.now _)) (if_neg (by omega)).symm
    · exact Ev.cast (Ev.ite_neg h2 (Ev.now _)) (if_pos ⟨h, by omega⟩).symm
  · exact Ev.cast (Ev.ite_neg h (Ev.now _)) (if_neg (fun e => h e.1)).symm
end
def two (r : Int × Int × Bool) : Int × Int := (r.1, r.2.1)
theorem getD_lt {l : List Int} {i : Nat} (h : l.length ≤ i) : l.getD i (-1) = -1 := by rw [List.getD_eq_getElem?_getD, List.getElem?_eq_none h]; rfl
theorem ct_m1 : ¬ ct (-1) = true := by decide
theorem t1 : (rd_T83 tab_0 1).f0 = 0 := rfl
theorem t2 : (rd_T83 tab_0 2).f0 = 192 := rfl
theorem t3 : (rd_T83 tab_0 3).f0 = 224 := rfl
theorem t4 : (rd_T83 tab_0 4).f0 = 240 := rfl
/-- The program's first character. -/
theorem first_ev (s : ByteArray) (h0 : bl s ≠ []) : Ev (fun k => utf_First.f k s) (two (decL (bl s))) := by
  have hl : 0 < s.size := by rw [← bl_length]; exact List.length_pos_iff.2 h0
  have hbl := bl_length s
  have B : ∀ i : Nat, i < s.size → (bl s).getD i (-1) = bt s (i : Int) := fun i hi => (bt_of rfl (by rw [bl_length]; exact hi)).symm
  have hb := bt_range s 0
  unfold utf_First.f
  refine Ev.ite_neg (fun e => h0 (bl_nil.1 e)) (Ev.ite_pos (by omega) (Ev.bind (long_ev _) ?_))
  have b0 := B 0 hl
  simp only [Int.natCast_zero] at b0
  unfold decL dec
  rw [b0]
  have dig : ∀ m : Int, ¬ m = 0 → 0 ≤ m → m < 5 → m ≤ s.size → ∀ r, Ev (fun k => utf_First.l0 k s m (bt s 0 - (rd_T83 tab_0 m).f0) 1) r → 0 ≤ (rd_T83 tab_0 m).f0 → (rd_T83 tab_0 m).f0 ≤ 240 →
      Ev (fun k => if m = 0 then utf_First.j0 k s m true else utf_First.j0 k s m (decide (m > (s.size : Int)))) r := fun m m0 m1 m2 m3 r hr t0 t1 => by
    refine Ev.ite_neg m0 (Ev.step (fun k => by rw [utf_First.j0]) (Ev.ite_neg (by simp; omega) (Ev.ite_pos (by omega) (Ev.ite_pos m1 (Ev.ite_pos m2 ?_)))))
    rw [w64 (x := bt s 0) (by omega) (by omega), w64 (by omega) (by omega)]
    exact hr
  have far : ∀ m : Int, ¬ m = 0 → (s.size : Int) < m → Ev (fun k => if m = 0 then utf_First.j0 k s m true else utf_First.j0 k s m (decide (m > (s.size : Int)))) (65533, 1) := fun m m0 m1 =>
    Ev.ite_neg m0 (Ev.step (fun k => by rw [utf_First.j0]) (Ev.ite_pos (by simpa using m1) (Ev.now _)))
  by_cases a1 : bt s 0 < 128
  · rw [show lng (bt s 0) = 1 by unfold lng; rw [if_pos a1], if_pos a1]
    refine dig 1 (by decide) (by decide) (by decide) (by omega) _ ?_ (by decide) (by decide)
    rw [t1]
    refine Ev.cast (l_end (.inl rfl)) ?_
    rw [Int.sub_zero, if_pos ⟨isC_iff.2 (by omega), by simpa [least] using hb.1⟩]
    rfl
  rw [if_neg a1]
  by_cases a2 : bt s 0 < 192
  · rw [show lng (bt s 0) = 0 by unfold lng; rw [if_neg a1, if_pos a2], if_pos a2]
    exact Ev.ite_pos rfl (Ev.step (fun k => by rw [utf_First.j0]) (Ev.ite_pos rfl (Ev.now (65533, 1))))
  rw [if_neg a2]
  by_cases a3 : bt s 0 < 224
  · rw [show lng (bt s 0) = 2 by unfold lng; rw [if_neg a1, if_neg a2, if_pos a3], if_pos a3]
    by_cases z : s.size < 2
    · rw [getD_lt (by omega : (bl s).length ≤ 1), if_neg ct_m1]
      exact far 2 (by decide) (by omega)
    rw [B 1 (by omega)]
    refine dig 2 (by decide) (by decide) (by decide) (by omega) _ ?_ (by decide) (by decide)
    rw [t2]
    by_cases c1 : ct (bt s 1) = true
    · have c1' := ct_iff.1 c1
      refine l_go (by omega) (by omega) (by omega) (by omega) (by omega) (by omega) c1 ?_
      refine Ev.cast (l_end (.inr (.inl rfl))) ?_
      rw [show ((1 : Nat) : Int) = 1 from rfl, if_pos c1]
      by_cases q : 128 ≤ (bt s 0 - 192) * 64 + bt s 1 % 64
      · rw [if_pos q, if_pos ⟨isC_iff.2 (by omega), q⟩]; rfl
      · rw [if_neg q, if_neg (fun e => q e.2)]; rfl
    · rw [show ((1 : Nat) : Int) = 1 from rfl, if_neg c1]
      exact l_bad (by omega) (by omega) (by omega) c1
  rw [if_neg a3]
  by_cases a4 : bt s 0 < 240
  · rw [show lng (bt s 0) = 3 by unfold lng; rw [if_neg a1, if_neg a2, if_neg a3, if_pos a4], if_pos a4]
    by_cases z : s.size < 3
    · rw [getD_lt (by omega : (bl s).length ≤ 2), if_neg ct_m1, ite_self]
      exact far 3 (by decide) (by omega)
    rw [B 1 (by omega), B 2 (by omega), show ((1 : Nat) : Int) = 1 from rfl, show ((2 : Nat) : Int) = 2 from rfl]
    refine dig 3 (by decide) (by decide) (by decide) (by omega) _ ?_ (by decide) (by decide)
    rw [t3]
    by_cases c1 : ct (bt s 1) = true
    · have c1' := ct_iff.1 c1
      refine l_go (by omega) (by omega) (by omega) (by omega) (by omega) (by omega) c1 ?_
      rw [if_pos c1]
      by_cases c2 : ct (bt s 2) = true
      · have c2' := ct_iff.1 c2
        refine l_go (by omega) (by omega) (by omega) (by omega) (by omega) (by omega) c2 ?_
        rw [if_pos c2]
        refine Ev.cast (l_end (.inr (.inr (.inl rfl)))) ?_
        by_cases q : isC (((bt s 0 - 224) * 64 + bt s 1 % 64) * 64 + bt s 2 % 64) = true ∧ 2048 ≤ ((bt s 0 - 224) * 64 + bt s 1 % 64) * 64 + bt s 2 % 64
        · rw [if_pos q, if_pos ⟨q.1, q.2⟩]; rfl
        · rw [if_neg q, if_neg (fun e => q ⟨e.1, e.2⟩)]; rfl
      · rw [if_neg c2]
        exact l_bad (by omega) (by omega) (by omega) c2
    · rw [if_neg c1]
      exact l_bad (by omega) (by omega) (by omega) c1
  rw [if_neg a4]
  by_cases a5 : bt s 0 < 248
  · rw [show lng (bt s 0) = 4 by unfold lng; rw [if_neg a1, if_neg a2, if_neg a3, if_neg a4, if_pos a5], if_pos a5]
    by_cases z : s.size < 4
    · rw [getD_lt (by omega : (bl s).length ≤ 3), if_neg ct_m1, ite_self, ite_self]
      exact far 4 (by decide) (by omega)
    rw [B 1 (by omega), B 2 (by omega), B 3 (by omega), show ((1 : Nat) : Int) = 1 from rfl, show ((2 : Nat) : Int) = 2 from rfl, show ((3 : Nat) : Int) = 3 from rfl]
    refine dig 4 (by decide) (by decide) (by decide) (by omega) _ ?_ (by decide) (by decide)
    rw [t4]
    by_cases c1 : ct (bt s 1) = true
    · have c1' := ct_iff.1 c1
      refine l_go (by omega) (by omega) (by omega) (by omega) (by omega) (by omega) c1 ?_
      rw [if_pos c1]
      by_cases c2 : ct (bt s 2) = true
      · have c2' := ct_iff.1 c2
        refine l_go (by omega) (by omega) (by omega) (by omega) (by omega) (by omega) c2 ?_
        rw [if_pos c2]
        by_cases c3 : ct (bt s 3) = true
        · have c3' := ct_iff.1 c3
          refine l_go (by omega) (by omega) (by omega) (by omega) (by omega) (by omega) c3 ?_
          rw [if_pos c3]
          refine Ev.cast (l_end (.inr (.inr (.inr rfl)))) ?_
          by_cases q : isC ((((bt s 0 - 240) * 64 + bt s 1 % 64) * 64 + bt s 2 % 64) * 64 + bt s 3 % 64) = true ∧ 65536 ≤ (((bt s 0 - 240) * 64 + bt s 1 % 64) * 64 + bt s 2 % 64) * 64 + bt s 3 % 64
          · rw [if_pos q, if_pos ⟨q.1, q.2⟩]; rfl
          · rw [if_neg q, if_neg (fun e => q ⟨e.1, e.2⟩)]; rfl
        · rw [if_neg c3]
          exact l_bad (by omega) (by omega) (by omega) c3
      · rw [if_neg c2]
        exact l_bad (by omega) (by omega) (by omega) c2
    · rw [if_neg c1]
      exact l_bad (by omega) (by omega) (by omega) c1
  · rw [show lng (bt s 0) = 0 by unfold lng; rw [if_neg a1, if_neg a2, if_neg a3, if_neg a4, if_neg a5], if_neg a5]
    exact Ev.ite_pos rfl (Ev.step (fun k => by rw [utf_First.j0]) (Ev.ite_pos rfl (Ev.now (65533, 1))))
end Go.Proofs.YtgopimjfoppkmaaDoor.D
namespace Go.Proofs.YtgopimjfoppkmaaDoor.D
open Go.RowKit Go.Proofs.YtgopimjfoppkmaaDoorW.PrintWords Go.Proofs.YtgopimjfoppkmaaDoorW.PrintLast

theorem encB_length (c : Int) : (encB c).length ≤ 4 ∧ 0 < (encB c).length := by
  unfold encB
  repeat' split
  all_goals simp
theorem encB_range {c : Int} (h : isC c = true) : ∀ x ∈ encB c, 0 ≤ x ∧ x ≤ 255 := by
  obtain ⟨h0, h1, _⟩ := isC_iff.1 h
  unfold encB
  repeat' split
  all_goals (intro x hx; simp only [List.mem_cons, List.not_mem_nil, or_false] at hx; omega)
theorem take1_iff {l : List Int} {a : Int} (ha : 0 ≤ a) : l.take 1 = [a] ↔ l.getD 0 (-1) = a := by
  rcases l with _ | ⟨x, l⟩ <;> simp <;> omega
theorem take2_iff {l : List Int} {a b : Int} (ha : 0 ≤ a) (hb : 0 ≤ b) : l.take 2 = [a, b] ↔ l.getD 0 (-1) = a ∧ l.getD 1 (-1) = b := by
  rcases l with _ | ⟨x, _ | ⟨y, l⟩⟩ <;> simp <;> omega
theorem take3_iff {l : List Int} {a b c : Int} (ha : 0 ≤ a) (hb : 0 ≤ b) (hc : 0 ≤ c) : l.take 3 = [a, b, c] ↔ l.getD 0 (-1) = a ∧ l.getD 1 (-1) = b ∧ l.getD 2 (-1) = c := by
  rcases l with _ | ⟨x, _ | ⟨y, _ | ⟨z, l⟩⟩⟩ <;> simp <;> omega
theorem take4_iff {l : List Int} {a b c d : Int} (ha : 0 ≤ a) (hb : 0 ≤ b) (hc : 0 ≤ c) (hd : 0 ≤ d) : l.take 4 = [a, b, c, d] ↔ l.getD 0 (-1) = a ∧ l.getD 1 (-1) = b ∧ l.getD 2 (-1) = c ∧ l.getD 3 (-1) = d := by
  rcases l with _ | ⟨x, _ | ⟨y, _ | ⟨z, _ | ⟨u, l⟩⟩⟩⟩ <;> simp <;> omega
/-- What the reference answers of a number that it has gathered. -/
def st (l : List Int) (c : Int) : Int × Int × Bool := if isC c = true ∧ l.take (encB c).length = encB c then (c, ((encB c).length : Int), true) else bad
theorem st_1 {l : List Int} {c : Int} (h : isC c = true) (h1 : c < 128) : st l c = if l.getD 0 (-1) = c then (c, 1, true) else bad := by
  have h0 := (isC_iff.1 h).1
  have e : encB c = [c] := by unfold encB; rw [if_pos h1]
  unfold st
  rw [e]
  by_cases q : l.getD 0 (-1) = c
  · rw [if_pos q, if_pos ⟨h, (take1_iff h0).2 q⟩]; rfl
  · rw [if_neg q, if_neg (fun z => q ((take1_iff h0).1 z.2))]
theorem st_2 {l : List Int} {c : Int} (h : isC c = true) (h0 : 128 ≤ c) (h1 : c < 2048) : st l c = if l.getD 0 (-1) = 192 + c / 64 ∧ l.getD 1 (-1) = 128 + c % 64 then (c, 2, true) else bad := by
  have e : encB c = [192 + c / 64, 128 + c % 64] := by unfold encB; rw [if_neg (by omega), if_pos h1]
  have t := take2_iff (l := l) (a := 192 + c / 64) (b := 128 + c % 64) (by omega) (by omega)
  unfold st
  rw [e]
  by_cases q : l.getD 0 (-1) = 192 + c / 64 ∧ l.getD 1 (-1) = 128 + c % 64
  · rw [if_pos q, if_pos ⟨h, t.2 q⟩]; rfl
  · rw [if_neg q, if_neg (fun z => q (t.1 z.2))]
theorem st_3 {l : List Int} {c : Int} (h : isC c = true) (h0 : 2048 ≤ c) (h1 : c < 65536) : st l c = if l.getD 0 (-1) = 224 + c / 4096 ∧ l.getD 1 (-1) = 128 + c / 64 % 64 ∧ l.getD 2 (-1) = 128 + c % 64 then (c, 3, true) else bad := by
  have e : encB c = [224 + c / 4096, 128 + c / 64 % 64, 128 + c % 64] := by unfold encB; rw [if_neg (by omega), if_neg (by omega), if_pos h1]
  have t := take3_iff (l := l) (a := 224 + c / 4096) (b := 128 + c / 64 % 64) (c := 128 + c % 64) (by omega) (by omega) (by omega)
  unfold st
  rw [e]
  by_cases q : l.getD 0 (-1) = 224 + c / 4096 ∧ l.getD 1 (-1) = 128 + c / 64 % 64 ∧ l.getD 2 (-1) = 128 + c % 64
  · rw [if_pos q, if_pos ⟨h, t.2 q⟩]; rfl
  · rw [if_neg q, if_neg (fun z => q (t.1 z.2))]
theorem st_4 {l : List Int} {c : Int} (h : isC c = true) (h0 : 65536 ≤ c) : st l c = if l.getD 0 (-1) = 240 + c / 262144 ∧ l.getD 1 (-1) = 128 + c / 4096 % 64 ∧ l.getD 2 (-1) = 128 + c / 64 % 64 ∧ l.getD 3 (-1) = 128 + c % 64 then (c, 4, true) else bad := by
  have e : encB c = [240 + c / 262144, 128 + c / 4096 % 64, 128 + c / 64 % 64, 128 + c % 64] := by unfold encB; rw [if_neg (by omega), if_neg (by omega), if_neg (by omega)]
  have t := take4_iff (l := l) (a := 240 + c / 262144) (b := 128 + c / 4096 % 64) (c := 128 + c / 64 % 64) (d := 128 + c % 64) (by omega) (by omega) (by omega) (by omega)
  unfold st
  rw [e]
  by_cases q : l.getD 0 (-1) = 240 + c / 262144 ∧ l.getD 1 (-1) = 128 + c / 4096 % 64 ∧ l.getD 2 (-1) = 128 + c / 64 % 64 ∧ l.getD 3 (-1) = 128 + c % 64
  · rw [if_pos q, if_pos ⟨h, t.2 q⟩]; rfl
  · rw [if_neg q, if_neg (fun z => q (t.1 z.2))]
theorem st_no {l : List Int} {c : Int} (h : ¬ isC c = true) : st l c = bad := by unfold st; rw [if_neg (fun z => h z.1)]
/-- The number that the reference gathers. -/
def cOf (x0 x1 x2 x3 : Int) : Int :=
  if x0 < 128 then x0 else if 192 ≤ x0 ∧ x0 < 224 ∧ ct x1 = true then 64 * (x0 - 192) + (x1 - 128)
  else if 224 ≤ x0 ∧ x0 < 240 ∧ ct x1 = true ∧ ct x2 = true then 4096 * (x0 - 224) + 64 * (x1 - 128) + (x2 - 128)
  else if 240 ≤ x0 ∧ x0 < 248 ∧ ct x1 = true ∧ ct x2 = true ∧ ct x3 = true then 262144 * (x0 - 240) + 4096 * (x1 - 128) + 64 * (x2 - 128) + (x3 - 128) else -1
theorem isC_m1 : ¬ isC (-1) = true := by decide
theorem st_cOf {l : List Int} (h0 : 0 ≤ l.getD 0 (-1)) : st l (cOf (l.getD 0 (-1)) (l.getD 1 (-1)) (l.getD 2 (-1)) (l.getD 3 (-1))) = decL l := by
  unfold decL
  generalize e0 : l.getD 0 (-1) = x0 at *
  generalize e1 : l.getD 1 (-1) = x1 at *
  generalize e2 : l.getD 2 (-1) = x2 at *
  generalize e3 : l.getD 3 (-1) = x3 at *
  unfold cOf dec
  by_cases a1 : x0 < 128
  · rw [if_pos a1, if_pos a1, st_1 (isC_iff.2 (by omega)) a1, e0, if_pos rfl]
  rw [if_neg a1, if_neg a1]
  by_cases a2 : x0 < 192
  · rw [if_neg (by omega), if_neg (by omega), if_neg (by omega), if_pos a2, st_no isC_m1]
  rw [if_neg a2]
  by_cases a3 : x0 < 224
  · rw [if_pos a3]
    by_cases c1 : ct x1 = true
    · have c1' := ct_iff.1 c1
      rw [if_pos ⟨by omega, a3, c1⟩, if_pos c1]
      have hc : isC (64 * (x0 - 192) + (x1 - 128)) = true := isC_iff.2 (by omega)
      by_cases q : 128 ≤ (x0 - 192) * 64 + x1 % 64
      · rw [if_pos q, st_2 hc (by omega) (by omega), e0, e1, if_pos (by omega)]
        rw [show 64 * (x0 - 192) + (x1 - 128) = (x0 - 192) * 64 + x1 % 64 by omega]
      · rw [if_neg q, st_1 hc (by omega), e0, if_neg (by omega)]
    · rw [if_neg (fun z => c1 z.2.2), if_neg (by omega), if_neg (by omega), if_neg c1, st_no isC_m1]
  rw [if_neg a3, if_neg (by omega)]
  by_cases a4 : x0 < 240
  · rw [if_pos a4]
    by_cases c1 : ct x1 = true
    · have c1' := ct_iff.1 c1
      rw [if_pos c1]
      by_cases c2 : ct x2 = true
      · have c2' := ct_iff.1 c2
        rw [if_pos ⟨by omega, a4, c1, c2⟩, if_pos c2]
        rw [show 4096 * (x0 - 224) + 64 * (x1 - 128) + (x2 - 128) = ((x0 - 224) * 64 + x1 % 64) * 64 + x2 % 64 by omega]
        generalize hcc : ((x0 - 224) * 64 + x1 % 64) * 64 + x2 % 64 = c
        by_cases q : isC c = true
        · by_cases q2 : 2048 ≤ c
          · rw [if_pos ⟨q, q2⟩, st_3 q q2 (by omega), e0, e1, e2, if_pos (by omega)]
          · rw [if_neg (fun z => q2 z.2)]
            by_cases q3 : c < 128
            · rw [st_1 q q3, e0, if_neg (by omega)]
            · rw [st_2 q (by omega) (by omega), e0, e1, if_neg (by omega)]
        · rw [if_neg (fun z => q z.1), st_no q]
      · rw [if_neg (fun z => c2 z.2.2.2), if_neg (by omega), if_neg c2, st_no isC_m1]
    · rw [if_neg (fun z => c1 z.2.2.1), if_neg (by omega), if_neg c1, st_no isC_m1]
  rw [if_neg a4, if_neg (by omega)]
  by_cases a5 : x0 < 248
  · rw [if_pos a5]
    by_cases c1 : ct x1 = true
    · have c1' := ct_iff.1 c1
      rw [if_pos c1]
      by_cases c2 : ct x2 = true
      · have c2' := ct_iff.1 c2
        rw [if_pos c2]
        by_cases c3 : ct x3 = true
        · have c3' := ct_iff.1 c3
          rw [if_pos ⟨by omega, a5, c1, c2, c3⟩, if_pos c3]
          rw [show 262144 * (x0 - 240) + 4096 * (x1 - 128) + 64 * (x2 - 128) + (x3 - 128) = (((x0 - 240) * 64 + x1 % 64) * 64 + x2 % 64) * 64 + x3 % 64 by omega]
          generalize hcc : (((x0 - 240) * 64 + x1 % 64) * 64 + x2 % 64) * 64 + x3 % 64 = c
          by_cases q : isC c = true
          · by_cases q2 : 65536 ≤ c
            · rw [if_pos ⟨q, q2⟩, st_4 q q2, e0, e1, e2, e3, if_pos (by omega)]
            · rw [if_neg (fun z => q2 z.2)]
              by_cases q3 : c < 128
              · rw [st_1 q q3, e0, if_neg (by omega)]
              · by_cases q4 : c < 2048
                · rw [st_2 q (by omega) q4, e0, e1, if_neg (by omega)]
                · rw [st_3 q (by omega) (by omega), e0, e1, e2, if_neg (by omega)]
          · rw [if_neg (fun z => q z.1), st_no q]
        · rw [if_neg (fun z => c3 z.2.2.2.2), if_neg c3, st_no isC_m1]
      · rw [if_neg (fun z => c2 z.2.2.2.1), if_neg c2, st_no isC_m1]
    · rw [if_neg (fun z => c1 z.2.2.1), if_neg c1, st_no isC_m1]
  · rw [if_neg (by omega), if_neg a5, st_no isC_m1]
theorem drop_getD (l : List Int) (i j : Nat) : (l.drop i).getD j (-1) = l.getD (i + j) (-1) := by rw [List.getD_eq_getElem?_getD, List.getD_eq_getElem?_getD, List.getElem?_drop]
end Go.Proofs.YtgopimjfoppkmaaDoor.D
namespace Go.Proofs.YtgopimjfoppkmaaDoor.D
open Go.RowKit Go.Proofs.YtgopimjfoppkmaaDoorW.PrintWords Go.Proofs.YtgopimjfoppkmaaDoorW.PrintLast

theorem dec_enc {c : Int} (h : isC c = true) (t : List Int) : decL (encB c ++ t) = (c, ((encB c).length : Int), true) := by
  have hn : 0 ≤ (encB c ++ t).getD 0 (-1) := by
    have hr := encB_range h
    have hl := (encB_length c).2
    rcases hq : encB c with _ | ⟨x, l⟩
    · rw [hq] at hl; simp at hl
    · rw [hq] at hr
      have := hr x (by simp)
      simp
      omega
  obtain ⟨h0, h1, h2⟩ := isC_iff.1 h
  have key : cOf ((encB c ++ t).getD 0 (-1)) ((encB c ++ t).getD 1 (-1)) ((encB c ++ t).getD 2 (-1)) ((encB c ++ t).getD 3 (-1)) = c := by
    by_cases a1 : c < 128
    · rw [show encB c = [c] by unfold encB; rw [if_pos a1]]
      show cOf c _ _ _ = c
      unfold cOf
      rw [if_pos a1]
    by_cases a2 : c < 2048
    · rw [show encB c = [192 + c / 64, 128 + c % 64] by unfold encB; rw [if_neg a1, if_pos a2]]
      show cOf (192 + c / 64) (128 + c % 64) _ _ = c
      unfold cOf
      rw [if_neg (by omega), if_pos ⟨by omega, by omega, ct_iff.2 (by omega)⟩]
      omega
    by_cases a3 : c < 65536
    · rw [show encB c = [224 + c / 4096, 128 + c / 64 % 64, 128 + c % 64] by unfold encB; rw [if_neg a1, if_neg a2, if_pos a3]]
      show cOf (224 + c / 4096) (128 + c / 64 % 64) (128 + c % 64) _ = c
      unfold cOf
      rw [if_neg (by omega), if_neg (by omega), if_pos ⟨by omega, by omega, ct_iff.2 (by omega), ct_iff.2 (by omega)⟩]
      omega
    · rw [show encB c = [240 + c / 262144, 128 + c / 4096 % 64, 128 + c / 64 % 64, 128 + c % 64] by unfold encB; rw [if_neg a1, if_neg a2, if_neg a3]]
      show cOf (240 + c / 262144) (128 + c / 4096 % 64) (128 + c / 64 % 64) (128 + c % 64) = c
      unfold cOf
      rw [if_neg (by omega), if_neg (by omega), if_neg (by omega), if_pos ⟨by omega, by omega, ct_iff.2 (by omega), ct_iff.2 (by omega), ct_iff.2 (by omega)⟩]
      omega
  rw [← st_cOf hn, key]
  unfold st
  rw [if_pos ⟨h, by rw [List.take_left]⟩]
/-- How much is taken: at least one byte, and no more than there are. -/
theorem dec_len {l : List Int} (h : l ≠ []) : 1 ≤ (decL l).2.1 ∧ (decL l).2.1 ≤ l.length ∧ (decL l).2.1 ≤ 4 := by
  have hp := List.length_pos_iff.2 h
  have g : ∀ i : Nat, ct (l.getD i (-1)) = true → i < l.length := fun i hi => by
    rcases Nat.lt_or_ge i l.length with q | q
    · exact q
    · rw [getD_lt q] at hi; exact absurd hi ct_m1
  have hb : (1 : Int) ≤ bad.2.1 ∧ bad.2.1 ≤ l.length ∧ bad.2.1 ≤ 4 := ⟨by decide, by show (1 : Int) ≤ _; omega, by decide⟩
  unfold decL dec
  repeat' split
  all_goals first | exact hb | dsimp only
  · rename_i c1 _; have := g 1 c1; omega
  · rename_i c1 c2 _; have := g 2 c2; omega
  · rename_i c1 c2 c3 _; have := g 3 c3; omega
/-- It is a character, always. -/
theorem dec_isC {l : List Int} (h0 : 0 ≤ l.getD 0 (-1)) : isC (decL l).1 = true := by
  rw [← st_cOf h0]
  unfold st
  split
  · rename_i h; exact h.1
  · decide
/-- What is told as right is a character's bytes. -/
theorem dec_true {l : List Int} (h0 : 0 ≤ l.getD 0 (-1)) (h : (decL l).2.2 = true) : l.take (decL l).2.1.toNat = encB (decL l).1 ∧ (decL l).2.1 = ((encB (decL l).1).length : Int) := by
  rw [← st_cOf h0] at h ⊢
  generalize cOf (l.getD 0 (-1)) (l.getD 1 (-1)) (l.getD 2 (-1)) (l.getD 3 (-1)) = c at *
  unfold st at h ⊢
  split at h
  · rename_i q
    rw [if_pos q]
    exact ⟨by show l.take ((encB c).length : Int).toNat = _; rw [Int.toNat_natCast]; exact q.2, rfl⟩
  · cases h
theorem dec_false {l : List Int} (h0 : 0 ≤ l.getD 0 (-1)) (h : (decL l).2.2 = false) : decL l = bad := by
  rw [← st_cOf h0] at h ⊢
  generalize cOf (l.getD 0 (-1)) (l.getD 1 (-1)) (l.getD 2 (-1)) (l.getD 3 (-1)) = c at *
  unfold st at h ⊢
  split at h
  · cases h
  · rename_i q
    rw [if_neg q]
end Go.Proofs.YtgopimjfoppkmaaDoor.D
namespace Go.Proofs.YtgopimjfoppkmaaDoor.D
open Go.RowKit Go.Proofs.YtgopimjfoppkmaaDoorW.PrintWords Go.Proofs.YtgopimjfoppkmaaDoorW.PrintLast

/-- Bytes. -/
def Byt (l : List Int) : Prop := ∀ x ∈ l, 0 ≤ x ∧ x ≤ 255
theorem byt_bl (s : ByteArray) : Byt (bl s) := fun _ h => bl_range h
theorem Byt.drop {l : List Int} (h : Byt l) (n : Nat) : Byt (l.drop n) := fun x hx => h x (List.mem_of_mem_drop hx)
theorem Byt.head {l : List Int} (h : Byt l) (hn : l ≠ []) : 0 ≤ l.getD 0 (-1) := by
  rcases l with _ | ⟨x, l⟩
  · exact absurd rfl hn
  · have := h x (by simp)
    simp
    omega
def decAll : Nat → List Int → List (Int × Int × Bool)
  | 0, _ => []
  | n + 1, l => if l = [] then [] else decL l :: decAll n (l.drop (decL l).2.1.toNat)
/-- All characters of a text. -/
def all (l : List Int) : List (Int × Int × Bool) := decAll l.length l
theorem decAll_eq : ∀ (n m : Nat) (l : List Int), l.length ≤ n → l.length ≤ m → decAll n l = decAll m l
  | 0, 0, _, _, _ => rfl
  | 0, m + 1, l, h, _ => by
    have : l = [] := List.length_eq_zero_iff.1 (by omega)
    rw [decAll, decAll, if_pos this]
  | n + 1, 0, l, _, h => by
    have : l = [] := List.length_eq_zero_iff.1 (by omega)
    rw [decAll, decAll, if_pos this]
  | n + 1, m + 1, l, hn, hm => by
    rw [decAll, decAll]
    by_cases h : l = []
    · rw [if_pos h, if_pos h]
    · have := dec_len h
      rw [if_neg h, if_neg h, decAll_eq n m _ (by rw [List.length_drop]; omega) (by rw [List.length_drop]; omega)]
theorem all_nil : all [] = [] := rfl
theorem all_cons {l : List Int} (h : l ≠ []) : all l = decL l :: all (l.drop (decL l).2.1.toNat) := by
  have hd := dec_len h
  have hp := List.length_pos_iff.2 h
  unfold all
  obtain ⟨n, hn⟩ : ∃ n, l.length = n + 1 := ⟨l.length - 1, by omega⟩
  rw [hn, decAll, if_neg h, decAll_eq n (l.drop (decL l).2.1.toNat).length _ (by rw [List.length_drop]; omega) (Nat.le_refl _)]
/-- What is cleaned: the characters' bytes, one behind the other. -/
def cleanL (l : List Int) : List Int := (all l).flatMap fun d => encB d.1
def rightL (l : List Int) : Bool := (all l).all fun d => d.2.2
theorem clean_cons {l : List Int} (h : l ≠ []) : cleanL l = encB (decL l).1 ++ cleanL (l.drop (decL l).2.1.toNat) := by
  unfold cleanL
  rw [all_cons h, List.flatMap_cons]
theorem right_cons {l : List Int} (h : l ≠ []) : rightL l = ((decL l).2.2 && rightL (l.drop (decL l).2.1.toNat)) := by
  unfold rightL
  rw [all_cons h, List.all_cons]
/-- Induction along the characters. -/
theorem along {P : List Int → Prop} (h0 : P []) (h1 : ∀ l, l ≠ [] → P (l.drop (decL l).2.1.toNat) → P l) : ∀ l, P l := by
  have : ∀ (n : Nat) (l : List Int), l.length ≤ n → P l := fun n => by
    induction n with
    | zero => intro l hl; rw [List.length_eq_zero_iff.1 (by omega : l.length = 0)]; exact h0
    | succ n ih =>
      intro l hl
      by_cases h : l = []
      · rw [h]; exact h0
      · have := dec_len h
        exact h1 l h (ih _ (by rw [List.length_drop]; omega))
  exact fun l => this l.length l (Nat.le_refl _)
theorem all_length : ∀ l, (all l).length ≤ l.length := by
  refine along ?_ ?_
  · exact Nat.le_refl _
  · intro l h ih
    have hd := dec_len h
    rw [all_cons h, List.length_cons]
    rw [List.length_drop] at ih
    omega
theorem enc_three {c : Int} (h : c = 65533) : (encB c).length = 3 := by subst h; rfl
/-- Three bytes at most for each byte. -/
theorem dec_size {l : List Int} (hb : Byt l) (h : l ≠ []) : ((encB (decL l).1).length : Int) ≤ 3 * (decL l).2.1 := by
  have hd := dec_len h
  cases e : (decL l).2.2 with
  | true =>
    have := (dec_true (hb.head h) e).2
    omega
  | false =>
    rw [dec_false (hb.head h) e]
    decide
theorem clean_length : ∀ l, Byt l → (cleanL l).length ≤ 3 * l.length := by
  refine along ?_ ?_
  · intro _; exact Nat.le_refl _
  · intro l h ih hb
    have hd := dec_len h
    have := dec_size hb h
    have i := ih (hb.drop _)
    rw [clean_cons h, List.length_append]
    rw [List.length_drop] at i
    omega
theorem all_isC : ∀ l, Byt l → ∀ d ∈ all l, isC d.1 = true := by
  refine along ?_ ?_
  · intro _ d hd; cases hd
  · intro l h ih hb d hd
    rw [all_cons h] at hd
    rcases List.mem_cons.1 hd with rfl | hd
    · exact dec_isC (hb.head h)
    · exact ih (hb.drop _) d hd
theorem byt_clean {l : List Int} (hb : Byt l) : Byt (cleanL l) := by
  intro x hx
  obtain ⟨d, hd, hx⟩ := List.mem_flatMap.1 hx
  exact encB_range (all_isC l hb d hd) x hx
/-- Characters' bytes, one behind the other, are these characters, whatever is behind. -/
theorem all_enc (cs : List Int) (hc : ∀ c ∈ cs, isC c = true) (t : List Int) : all (cs.flatMap encB ++ t) = cs.map (fun c => (c, ((encB c).length : Int), true)) ++ all t := by
  induction cs with
  | nil => rfl
  | cons c cs ih =>
    have h := hc c (by simp)
    have hl := encB_length c
    rw [List.flatMap_cons, List.append_assoc]
    have hn : encB c ++ (cs.flatMap encB ++ t) ≠ [] := by
      intro e
      have e2 := (List.append_eq_nil_iff.1 e).1
      rw [e2] at hl
      simp at hl
    rw [all_cons hn, dec_enc h]
    show _ :: all ((encB c ++ (cs.flatMap encB ++ t)).drop ((encB c).length : Int).toNat) = _
    rw [Int.toNat_natCast, List.drop_left, ih (fun x hx => hc x (List.mem_cons_of_mem _ hx))]
    rfl
theorem clean_flat (l : List Int) : cleanL l = ((all l).map fun d => d.1).flatMap encB := by unfold cleanL; rw [List.flatMap_map]
theorem all_clean {l : List Int} (hb : Byt l) (t : List Int) : all (cleanL l ++ t) = ((all l).map fun d => d.1).map (fun c => (c, ((encB c).length : Int), true)) ++ all t := by
  rw [clean_flat]
  exact all_enc _ (fun c hc => by obtain ⟨d, hd, rfl⟩ := List.mem_map.1 hc; exact all_isC l hb d hd) t
theorem all_clean0 {l : List Int} (hb : Byt l) : all (cleanL l) = ((all l).map fun d => d.1).map (fun c => (c, ((encB c).length : Int), true)) := by
  have := all_clean hb []
  rwa [List.append_nil, all_nil, List.append_nil] at this
/-! The program's loops. -/
theorem strange_dec {l : List Int} (hb : Byt l) (h : l ≠ []) : (decide ((decL l).1 = 65533) && decide ((decL l).2.1 = 1)) = !(decL l).2.2 := by
  cases e : (decL l).2.2 with
  | true =>
    have := (dec_true (hb.head h) e).2
    by_cases q : (decL l).1 = 65533
    · have := enc_three q
      rw [Bool.and_eq_false_iff.2 (.inr (decide_eq_false (by omega)))]
      rfl
    · rw [Bool.and_eq_false_iff.2 (.inl (decide_eq_false q))]
      rfl
  | false =>
    rw [dec_false (hb.head h) e]
    decide
theorem strange_ev' {s : ByteArray} (h : bl s ≠ []) : Ev (fun k => utf_strange.f k s) (!(decL (bl s)).2.2) := by
  rw [← strange_dec (byt_bl s) h]
  unfold utf_strange.f
  refine Ev.bind (first_ev s h) ?_
  by_cases e : (decL (bl s)).1 = 65533
  · refine Ev.cast (Ev.ite_pos e (Ev.now _)) ?_
    simp only [two, e, decide_true, Bool.true_and]
    rw [Bool.eq_iff_iff]; simp
  · exact Ev.cast (Ev.ite_neg e (Ev.now false)) (by simp [e])
section
variable {s : ByteArray}
theorem cut_ok (h : bl s ≠ []) : 0 ≤ (decL (bl s)).2.1 ∧ (decL (bl s)).2.1 ≤ (s.size : Int) := by
  have := dec_len h
  rw [bl_length] at this
  omega
theorem cut_bl : bl (s.extract ((decL (bl s)).2.1 : Int).toNat s.size) = (bl s).drop (decL (bl s)).2.1.toNat := bl_tail s _
end
theorem right_l (n : Nat) : ∀ s : ByteArray, s.size ≤ n → Ev (fun k => utf_Right.l0 k s) (rightL (bl s)) := by
  induction n with
  | zero =>
    intro s hs
    have h : bl s = [] := List.length_eq_zero_iff.1 (by rw [bl_length]; omega)
    refine Ev.step (fun k => by rw [utf_Right.l0]) ?_
    rw [h]
    exact Ev.ite_pos (bl_nil.2 h) (Ev.now true)
  | succ n ih =>
    intro s hs
    refine Ev.step (fun k => by rw [utf_Right.l0]) ?_
    by_cases h : bl s = []
    · rw [h]; exact Ev.ite_pos (bl_nil.2 h) (Ev.now true)
    refine Ev.ite_neg (fun e => h (bl_nil.1 e)) (Ev.bind (strange_ev' h) ?_)
    rw [right_cons h]
    cases e : (decL (bl s)).2.2 with
    | false => exact Ev.ite_pos rfl (Ev.now false)
    | true =>
      have hd := dec_len h
      have hc := cut_ok h
      refine Ev.ite_neg (by decide) (Ev.bind (first_ev s h) (Ev.ite_pos hc.1 (Ev.ite_pos hc.2 ?_)))
      have := ih (s.extract ((decL (bl s)).2.1 : Int).toNat s.size) (by rw [← bl_length, cut_bl, List.length_drop, bl_length]; rw [bl_length] at hd; omega)
      rw [cut_bl] at this
      exact this
theorem right_ev (s : ByteArray) : Ev (fun k => utf_Right.f k s) (rightL (bl s)) := right_l s.size s (Nat.le_refl _)
def u8s (l : List Int) : List UInt8 := l.map fun n => UInt8.ofNat n.toNat
theorem u8s_data (l : List Int) : (strOfNums l).data.toList = u8s l := rfl
theorem bl_at {s : ByteArray} {i : Nat} (h : i < s.size) : (bl s).drop i = bt s (i : Int) :: (bl s).drop (i + 1) := by
  have hi : i < (bl s).length := by rw [bl_length]; exact h
  rw [List.drop_eq_getElem_cons hi, bt_of rfl hi, List.getD_eq_getElem?_getD, List.getElem?_eq_getElem hi]; rfl
theorem bl_app_nums (x : ByteArray) (a : List Int) (h : ∀ y ∈ a, 0 ≤ y ∧ y ≤ 255) : bl (x ++ strOfNums a) = bl x ++ a := by rw [bl_append, bl_strOfNums h]
theorem size_nums (a : List Int) : (strOfNums a).size = a.length := by rw [size_length]; show (a.map _).length = _; rw [List.length_map]
end Go.Proofs.YtgopimjfoppkmaaDoor.D
