/- UTF-8, plainly: the reference's character at a place is what stands first there. -/
import Derived.Test.YtenbdffgnbibeaaDoorRPureFirst
namespace Go.Proofs.YtenbdffgnbibeaaDoor.R
open Go.RowKit Go.Proofs.YtenbdffgnbibeaaDoorW.PrintWords Go.Proofs.YtenbdffgnbibeaaDoorW.PrintLast

theorem encB_length (c : Int) : (encB c).length ≤ 4 ∧ 0 < (encB c).length := by
  unfold encB
  repeat' split
  all_goals simp
theorem encB_range {c : Int} (h : isC c = true) : ∀ x ∈ encB c, 0 ≤ x ∧ x ≤ 255 := by
  obtain ⟨h0, h1, _⟩ := isC_iff.1 h
  unfold encB
  repeat' split
  all_goals (intro x hx; simp only [List.mem_cons, List.not_mem_nil, or_false] at hx; omega)
theorem take1_iff {l : List Int} {a : Int} (ha : 0 ≤ a) : l.take 1 = [a] ↔ l.getD 0 (-1) = a := by
  rcases l with _ | ⟨x, l⟩ <;> simp <;> omega
theorem take2_iff {l : List Int} {a b : Int} (ha : 0 ≤ a) (hb : 0 ≤ b) : l.take 2 = [a, b] ↔ l.getD 0 (-1) = a ∧ l.getD 1 (-1) = b := by
  rcases l with _ | ⟨x, _ | ⟨y, l⟩⟩ <;> simp <;> omega
theorem take3_iff {l : List Int} {a b c : Int} (ha : 0 ≤ a) (hb : 0 ≤ b) (hc : 0 ≤ c) : l.take 3 = [a, b, c] ↔ l.getD 0 (-1) = a ∧ l.getD 1 (-1) = b ∧ l.getD 2 (-1) = c := by
  rcases l with _ | ⟨x, _ | ⟨y, _ | ⟨z, l⟩⟩⟩ <;> simp <;> omega
theorem take4_iff {l : List Int} {a b c d : Int} (ha : 0 ≤ a) (hb : 0 ≤ b) (hc : 0 ≤ c) (hd : 0 ≤ d) : l.take 4 = [a, b, c, d] ↔ l.getD 0 (-1) = a ∧ l.getD 1 (-1) = b ∧ l.getD 2 (-1) = c ∧ l.getD 3 (-1) = d := by
  rcases l with _ | ⟨x, _ | ⟨y, _ | ⟨z, _ | ⟨u, l⟩⟩⟩⟩ <;> simp <;> omega
/-- What the reference answers of a number that it has gathered. -/
def st (l : List Int) (c : Int) : Int × Int × Bool := if isC c = true ∧ l.take (encB c).length = encB c then (c, ((encB c).length : Int), true) else bad
theorem st_1 {l : List Int} {c : Int} (h : isC c = true) (h1 : c < 128) : st l c = if l.getD 0 (-1) = c then (c, 1, true) else bad := by
  have h0 := (isC_iff.1 h).1
  have e : encB c = [c] := by unfold encB; rw [if_pos h1]
  unfold st
  rw [e]
  by_cases q : l.getD 0 (-1) = c
  · rw [if_pos q, if_pos ⟨h, (take1_iff h0).2 q⟩]; rfl
  · rw [if_neg q, if_neg (fun z => q ((take1_iff h0).1 z.2))]
theorem st_2 {l : List Int} {c : Int} (h : isC c = true) (h0 : 128 ≤ c) (h1 : c < 2048) : st l c = if l.getD 0 (-1) = 192 + c / 64 ∧ l.getD 1 (-1) = 128 + c % 64 then (c, 2, true) else bad := by
  have e : encB c = [192 + c / 64, 128 + c % 64] := by unfold encB; rw [if_neg (by omega), if_pos h1]
  have t := take2_iff (l := l) (a := 192 + c / 64) (b := 128 + c % 64) (by omega) (by omega)
  unfold st
  rw [e]
  by_cases q : l.getD 0 (-1) = 192 + c / 64 ∧ l.getD 1 (-1) = 128 + c % 64
  · rw [if_pos q, if_pos ⟨h, t.2 q⟩]; rfl
  · rw [if_neg q, if_neg (fun z => q (t.1 z.2))]
theorem st_3 {l : List Int} {c : Int} (h : isC c = true) (h0 : 2048 ≤ c) (h1 : c < 65536) : st l c = if l.getD 0 (-1) = 224 + c / 4096 ∧ l.getD 1 (-1) = 128 + c / 64 % 64 ∧ l.getD 2 (-1) = 128 + c % 64 then (c, 3, true) else bad := by
  have e : encB c = [224 + c / 4096, 128 + c / 64 % 64, 128 + c % 64] := by unfold encB; rw [if_neg (by omega), if_neg (by omega), if_pos h1]
  have t := take3_iff (l := l) (a := 224 + c / 4096) (b := 128 + c / 64 % 64) (c := 128 + c % 64) (by omega) (by omega) (by omega)
  unfold st
  rw [e]
  by_cases q : l.getD 0 (-1) = 224 + c / 4096 ∧ l.getD 1 (-1) = 128 + c / 64 % 64 ∧ l.getD 2 (-1) = 128 + c % 64
  · rw [if_pos q, if_pos ⟨h, t.2 q⟩]; rfl
  · rw [if_neg q, if_neg (fun z => q (t.1 z.2))]
theorem st_4 {l : List Int} {c : Int} (h : isC c = true) (h0 : 65536 ≤ c) : st l c = if l.getD 0 (-1) = 240 + c / 262144 ∧ l.getD 1 (-1) = 128 + c / 4096 % 64 ∧ l.getD 2 (-1) = 128 + c / 64 % 64 ∧ l.getD 3 (-1) = 128 + c % 64 then (c, 4, true) else bad := by
  have e : encB c = [240 + c / 262144, 128 + c / 4096 % 64, 128 + c / 64 % 64, 128 + c % 64] := by unfold encB; rw [if_neg (by omega), if_neg (by omega), if_neg (by omega)]
  have t := take4_iff (l := l) (a := 240 + c / 262144) (b := 128 + c / 4096 % 64) (c := 128 + c / 64 % 64) (d := 128 + c % 64) (by omega) (by omega) (by omega) (by omega)
  unfold st
  rw [e]
  by_cases q : l.getD 0 (-1) = 240 + c / 262144 ∧ l.getD 1 (-1) = 128 + c / 4096 % 64 ∧ l.getD 2 (-1) = 128 + c / 64 % 64 ∧ l.getD 3 (-1) = 128 + c % 64
  · rw [if_pos q, if_pos ⟨h, t.2 q⟩]; rfl
  · rw [if_neg q, if_neg (fun z => q (t.1 z.2))]
theorem st_no {l : List Int} {c : Int} (h : ¬ isC c = true) : st l c = bad := by unfold st; rw [if_neg (fun z => h z.1)]
/-- The number that the reference gathers. -/
def cOf (x0 x1 x2 x3 : Int) : Int :=
  if x0 < 128 then x0 else if 192 ≤ x0 ∧ x0 < 224 ∧ ct x1 = true then 64 * (x0 - 192) + (x1 - 128)
  else if 224 ≤ x0 ∧ x0 < 240 ∧ ct x1 = true ∧ ct x2 = true then 4096 * (x0 - 224) + 64 * (x1 - 128) + (x2 - 128)
  else if 240 ≤ x0 ∧ x0 < 248 ∧ ct x1 = true ∧ ct x2 = true ∧ ct x3 = true then 262144 * (x0 - 240) + 4096 * (x1 - 128) + 64 * (x2 - 128) + (x3 - 128) else -1
theorem isC_m1 : ¬ isC (-1) = true := by decide
theorem st_cOf {l : List Int} (h0 : 0 ≤ l.getD 0 (-1)) : st l (cOf (l.getD 0 (-1)) (l.getD 1 (-1)) (l.getD 2 (-1)) (l.getD 3 (-1))) = decL l := by
  unfold decL
  generalize e0 : l.getD 0 (-1) = x0 at *
  generalize e1 : l.getD 1 (-1) = x1 at *
  generalize e2 : l.getD 2 (-1) = x2 at *
  generalize e3 : l.getD 3 (-1) = x3 at *
  unfold cOf dec
  by_cases a1 : x0 < 128
  · rw [if_pos a1, if_pos a1, st_1 (isC_iff.2 (by omega)) a1, e0, if_pos rfl]
  rw [if_neg a1, if_neg a1]
  by_cases a2 : x0 < 192
  · rw [if_neg (by omega), if_neg (by omega), if_neg (by omega), if_pos a2, st_no isC_m1]
  rw [if_neg a2]
  by_cases a3 : x0 < 224
  · rw [if_pos a3]
    by_cases c1 : ct x1 = true
    · have c1' := ct_iff.1 c1
      rw [if_pos ⟨by omega, a3, c1⟩, if_pos c1]
      have hc : isC (64 * (x0 - 192) + (x1 - 128)) = true := isC_iff.2 (by omega)
      by_cases q : 128 ≤ (x0 - 192) * 64 + x1 % 64
      · rw [if_pos q, st_2 hc (by omega) (by omega), e0, e1, if_pos (by omega)]
        rw [show 64 * (x0 - 192) + (x1 - 128) = (x0 - 192) * 64 + x1 % 64 by omega]
      · rw [if_neg q, st_1 hc (by omega), e0, if_neg (by omega)]
    · rw [if_neg (fun z => c1 z.2.2), if_neg (by omega), if_neg (by omega), if_neg c1, st_no isC_m1]
  rw [if_neg a3, if_neg (by omega)]
  by_cases a4 : x0 < 240
  · rw [if_pos a4]
    by_cases c1 : ct x1 = true
    · have c1' := ct_iff.1 c1
      rw [if_pos c1]
      by_cases c2 : ct x2 = true
      · have c2' := ct_iff.1 c2
        rw [if_pos ⟨by omega, a4, c1, c2⟩, if_pos c2]
        rw [show 4096 * (x0 - 224) + 64 * (x1 - 128) + (x2 - 128) = ((x0 - 224) * 64 + x1 % 64) * 64 + x2 % 64 by omega]
        generalize hcc : ((x0 - 224) * 64 + x1 % 64) * 64 + x2 % 64 = c
        by_cases q : isC c = true
        · by_cases q2 : 2048 ≤ c
          · rw [if_pos ⟨q, q2⟩, st_3 q q2 (by omega), e0, e1, e2, if_pos (by omega)]
          · rw [if_neg (fun z => q2 z.2)]
            by_cases q3 : c < 128
            · rw [st_1 q q3, e0, if_neg (by omega)]
            · rw [st_2 q (by omega) (by omega), e0, e1, if_neg (by omega)]
        · rw [if_neg (fun z => q z.1), st_no q]
      · rw [if_neg (fun z => c2 z.2.2.2), if_neg (by omega), if_neg c2, st_no isC_m1]
    · rw [if_neg (fun z => c1 z.2.2.1), if_neg (by omega), if_neg c1, st_no isC_m1]
  rw [if_neg a4, if_neg (by omega)]
  by_cases a5 : x0 < 248
  · rw [if_pos a5]
    by_cases c1 : ct x1 = true
    · have c1' := ct_iff.1 c1
      rw [if_pos c1]
      by_cases c2 : ct x2 = true
      · have c2' := ct_iff.1 c2
        rw [if_pos c2]
        by_cases c3 : ct x3 = true
        · have c3' := ct_iff.1 c3
          rw [if_pos ⟨by omega, a5, c1, c2, c3⟩, if_pos c3]
          rw [show 262144 * (x0 - 240) + 4096 * (x1 - 128) + 64 * (x2 - 128) + (x3 - 128) = (((x0 - 240) * 64 + x1 % 64) * 64 + x2 % 64) * 64 + x3 % 64 by omega]
          generalize hcc : (((x0 - 240) * 64 + x1 % 64) * 64 + x2 % 64) * 64 + x3 % 64 = c
          by_cases q : isC c = true
          · by_cases q2 : 65536 ≤ c
            · rw [if_pos ⟨q, q2⟩, st_4 q q2, e0, e1, e2, e3, if_pos (by omega)]
            · rw [if_neg (fun z => q2 z.2)]
              by_cases q3 : c < 128
              · rw [st_1 q q3, e0, if_neg (by omega)]
              · by_cases q4 : c < 2048
                · rw [st_2 q (by omega) q4, e0, e1, if_neg (by omega)]
                · rw [st_3 q (by omega) (by omega), e0, e1, e2, if_neg (by omega)]
          · rw [if_neg (fun z => q z.1), st_no q]
        · rw [if_neg (fun z => c3 z.2.2.2.2), if_neg c3, st_no isC_m1]
      · rw [if_neg (fun z => c2 z.2.2.2.1), if_neg c2, st_no isC_m1]
    · rw [if_neg (fun z => c1 z.2.2.1), if_neg c1, st_no isC_m1]
  · rw [if_neg (by omega), if_neg a5, st_no isC_m1]
theorem low_f {s : ByteArray} {i : Int} (h0 : 0 ≤ i) : rectoref02_low.f s i = some (if ct ((bl s).getD i.toNat (-1)) = true then (bl s).getD i.toNat (-1) - 128 else -1) := by
  have hl := bl_length s
  unfold rectoref02_low.f
  by_cases a : i ≥ s.size
  · rw [if_pos a, getD_lt (by omega), if_neg ct_m1]
  · have hb := bt_range s i
    have e : (bl s).getD i.toNat (-1) = bt s i := by
      have := bt_of (s := s) (i := i.toNat) rfl (by omega)
      rw [Int.toNat_of_nonneg h0] at this
      exact this.symm
    rw [if_neg a, if_pos h0, if_pos (by omega), e]
    by_cases c1 : bt s i < 128
    · rw [if_pos c1, if_neg (fun z => by have := ct_iff.1 z; omega)]
    · rw [if_neg c1]
      by_cases c2 : bt s i > 191
      · rw [if_pos c2, if_neg (fun z => by have := ct_iff.1 z; omega)]
      · rw [if_neg c2, if_pos (ct_iff.2 (by omega)), w64 (x := bt s i) (by omega) (by omega), w64 (by omega) (by omega)]
theorem drop_getD (l : List Int) (i j : Nat) : (l.drop i).getD j (-1) = l.getD (i + j) (-1) := by rw [List.getD_eq_getElem?_getD, List.getD_eq_getElem?_getD, List.getElem?_drop]
theorem j2_ev {s : ByteArray} {i : Nat} (hi : i < s.size) (hs : s.size ≤ 140737488355328) (c : Int) : Ev (fun k => rectoref02_At.j2 k s i c) (st ((bl s).drop i) c) := by
  have hl := bl_length s
  refine Ev.step (fun k => by rw [rectoref02_At.j2]) (Ev.bind (Ev.pure fun _ => refIs_f c) ?_)
  by_cases h : isC c = true
  · refine Ev.ite_pos h ?_
    have hb := refBytes_ev c
    rw [show orC c = c by unfold orC; rw [if_pos h]] at hb
    refine Ev.bind hb ?_
    have he := encB_length c
    have hz : (strOfNums (encB c)).size = (encB c).length := strOfNums_size _
    rw [hz]
    rw [w64 (x := (s.size : Int) - i) (by omega) (by omega), w64 (x := (i : Int) + ((encB c).length : Nat)) (by omega) (by omega)]
    by_cases q : (s.size : Int) - i < ((encB c).length : Nat)
    · refine Ev.cast (Ev.ite_pos q (Ev.now bad)) ?_
      unfold st
      rw [if_neg (fun z => ?_)]
      have := congrArg List.length z.2
      rw [List.length_take, List.length_drop] at this
      omega
    · refine Ev.ite_neg q (Ev.ite_pos (by omega) (Ev.ite_pos (by omega) (Ev.ite_pos (by omega) ?_)))
      have e : (s.extract (i : Int).toNat ((i : Int) + ((encB c).length : Nat)).toNat).toList = (strOfNums (encB c)).toList ↔ ((bl s).drop i).take (encB c).length = encB c := by
        rw [toList_eq, bl_iff, bl_extract, bl_strOfNums (encB_range h)]
        rw [show (i : Int).toNat = i by omega, show ((i : Int) + ((encB c).length : Nat)).toNat - i = (encB c).length by omega]
      by_cases r : ((bl s).drop i).take (encB c).length = encB c
      · exact Ev.cast (Ev.ite_pos (e.2 r) (Ev.now _)) (by unfold st; rw [if_pos ⟨h, r⟩])
      · exact Ev.cast (Ev.ite_neg (fun z => r (e.1 z)) (Ev.now bad)) (by unfold st; rw [if_neg (fun z => r z.2)])
  · exact Ev.cast (Ev.ite_neg h (Ev.now bad)) (st_no h).symm
/-- The reference's character at a place. -/
theorem at_ev {s : ByteArray} {i : Nat} (hi : i < s.size) (hs : s.size ≤ 140737488355328) : Ev (fun k => rectoref02_At.f k s i) (decL ((bl s).drop i)) := by
  have hl := bl_length s
  have e0 : ((bl s).drop i).getD 0 (-1) = bt s i := by
    rw [drop_getD, Nat.add_zero]
    exact (bt_of rfl (by omega)).symm
  have hb := bt_range s i
  rw [← st_cOf (by rw [e0]; exact hb.1)]
  unfold rectoref02_At.f
  refine Ev.ite_pos (by omega) (Ev.ite_pos (by omega) ?_)
  rw [w64 (x := (i : Int) + 1) (by omega) (by omega), w64 (x := (i : Int) + 2) (by omega) (by omega), w64 (x := (i : Int) + 3) (by omega) (by omega), w64 (x := bt s i) (by omega) (by omega)]
  refine Ev.bind (Ev.pure fun _ => low_f (by omega)) (Ev.bind (Ev.pure fun _ => low_f (by omega)) (Ev.bind (Ev.pure fun _ => low_f (by omega)) ?_))
  rw [e0, drop_getD, drop_getD, drop_getD, show ((i : Int) + 1).toNat = i + 1 by omega, show ((i : Int) + 2).toNat = i + 2 by omega, show ((i : Int) + 3).toNat = i + 3 by omega]
  have J := j2_ev (s := s) (i := i) hi hs
  generalize bt s i = x0 at *
  generalize (bl s).getD (i + 1) (-1) = x1 at *
  generalize (bl s).getD (i + 2) (-1) = x2 at *
  generalize (bl s).getD (i + 3) (-1) = x3 at *
  generalize (bl s).drop i = l at *
  have y1 : ∀ x : Int, 0 ≤ (if ct x = true then x - 128 else -1) ↔ ct x = true := fun x => by
    by_cases h : ct x = true
    · have := ct_iff.1 h; rw [if_pos h]; exact ⟨fun _ => h, fun _ => by omega⟩
    · rw [if_neg h]; exact ⟨fun z => absurd z (by decide), fun z => absurd z h⟩
  have v1 : ∀ x : Int, ct x = true → (if ct x = true then x - 128 else -1) = x - 128 := fun x h => if_pos h
  by_cases a1 : x0 < 128
  · exact Ev.cast (Ev.ite_pos a1 (J x0)) (by unfold cOf; rw [if_pos a1])
  refine Ev.ite_neg a1 ?_
  have last : ∀ r, r = st l (-1) → Ev (fun k => rectoref02_At.j2 k s i (-1)) r := fun r hr => by rw [hr]; exact J (-1)
  -- the fourth form
  have four : ∀ z : Bool, ¬ z = true → ¬ (x0 < 224 ∧ 192 ≤ x0 ∧ ct x1 = true) → ¬ (224 ≤ x0 ∧ x0 < 240 ∧ ct x1 = true ∧ ct x2 = true) → Ev (fun k => rectoref02_At.j1 k s i x0 (if ct x1 = true then x1 - 128 else -1) (if ct x2 = true then x2 - 128 else -1) (if ct x3 = true then x3 - 128 else -1) (-1) z) (st l (cOf x0 x1 x2 x3)) := fun z hz n2 n3 => by
    refine Ev.step (fun k => by rw [rectoref02_At.j1]) (Ev.ite_neg hz ?_)
    by_cases g : x0 ≥ 240 ∧ x0 < 248 ∧ ct x1 = true ∧ ct x2 = true ∧ ct x3 = true
    · obtain ⟨g1, g2, g3, g4, g5⟩ := g
      have := ct_iff.1 g3; have := ct_iff.1 g4; have := ct_iff.1 g5
      refine Ev.ite_pos g1 (Ev.ite_pos g2 (Ev.ite_pos ((y1 x1).2 g3) (Ev.ite_pos ((y1 x2).2 g4) (Ev.ite_pos ((y1 x3).2 g5) ?_))))
      rw [v1 x1 g3, v1 x2 g4, v1 x3 g5]
      rw [w64 (x := x0 - 240) (by omega) (by omega), w64 (x := 262144 * (x0 - 240)) (by omega) (by omega), w64 (x := 4096 * (x1 - 128)) (by omega) (by omega), w64 (x := 262144 * (x0 - 240) + 4096 * (x1 - 128)) (by omega) (by omega), w64 (x := 64 * (x2 - 128)) (by omega) (by omega), w64 (x := 262144 * (x0 - 240) + 4096 * (x1 - 128) + 64 * (x2 - 128)) (by omega) (by omega), w64 (by omega) (by omega)]
      exact Ev.cast (J _) (by unfold cOf; rw [if_neg a1, if_neg (by omega), if_neg (by omega), if_pos ⟨g1, g2, g3, g4, g5⟩])
    · have e : cOf x0 x1 x2 x3 = -1 := by
        unfold cOf
        rw [if_neg a1, if_neg (fun z => n2 ⟨z.2.1, z.1, z.2.2⟩), if_neg n3, if_neg g]
      rw [e]
      by_cases g1 : x0 ≥ 240
      · refine Ev.ite_pos g1 ?_
        by_cases g2 : x0 < 248
        · refine Ev.ite_pos g2 ?_
          by_cases g3 : ct x1 = true
          · refine Ev.ite_pos ((y1 x1).2 g3) ?_
            by_cases g4 : ct x2 = true
            · refine Ev.ite_pos ((y1 x2).2 g4) ?_
              exact Ev.ite_neg (fun z => g ⟨g1, g2, g3, g4, (y1 x3).1 z⟩) (J _)
            · exact Ev.ite_neg (fun z => g4 ((y1 x2).1 z)) (J _)
          · exact Ev.ite_neg (fun z => g3 ((y1 x1).1 z)) (J _)
        · exact Ev.ite_neg g2 (J _)
      · exact Ev.ite_neg g1 (J _)
  -- the third form
  have three : ∀ z : Bool, ¬ z = true → ¬ (x0 < 224 ∧ 192 ≤ x0 ∧ ct x1 = true) → Ev (fun k => rectoref02_At.j0 k s i x0 (if ct x1 = true then x1 - 128 else -1) (if ct x2 = true then x2 - 128 else -1) (if ct x3 = true then x3 - 128 else -1) (-1) z) (st l (cOf x0 x1 x2 x3)) := fun z hz n2 => by
    refine Ev.step (fun k => by rw [rectoref02_At.j0]) (Ev.ite_neg hz ?_)
    by_cases g1 : x0 ≥ 224
    · refine Ev.ite_pos g1 ?_
      by_cases g2 : x0 < 240
      · refine Ev.ite_pos g2 ?_
        by_cases g3 : ct x1 = true
        · refine Ev.ite_pos ((y1 x1).2 g3) ?_
          by_cases g4 : ct x2 = true
          · have := ct_iff.1 g3; have := ct_iff.1 g4
            rw [v1 x1 g3, v1 x2 g4]
            refine Ev.step (fun k => by rw [rectoref02_At.j1]) (Ev.ite_pos (by simp; omega) ?_)
            rw [w64 (x := x0 - 224) (by omega) (by omega), w64 (x := 4096 * (x0 - 224)) (by omega) (by omega), w64 (x := 64 * (x1 - 128)) (by omega) (by omega), w64 (x := 4096 * (x0 - 224) + 64 * (x1 - 128)) (by omega) (by omega), w64 (by omega) (by omega)]
            exact Ev.cast (J _) (by unfold cOf; rw [if_neg a1, if_neg (by omega), if_pos ⟨g1, g2, g3, g4⟩])
          · exact four _ (by simpa using fun z => g4 ((y1 x2).1 z)) n2 (fun z => g4 z.2.2.2)
        · exact Ev.ite_neg (fun z => g3 ((y1 x1).1 z)) (four false (by decide) n2 (fun z => g3 z.2.2.1))
      · exact Ev.ite_neg g2 (four false (by decide) n2 (fun z => g2 z.2.1))
    · exact Ev.ite_neg g1 (four false (by decide) n2 (fun z => g1 z.1))
  by_cases g1 : x0 ≥ 192
  · refine Ev.ite_pos g1 ?_
    by_cases g2 : x0 < 224
    · refine Ev.ite_pos g2 ?_
      by_cases g3 : ct x1 = true
      · have := ct_iff.1 g3
        rw [v1 x1 g3]
        refine Ev.step (fun k => by rw [rectoref02_At.j0]) (Ev.ite_pos (by simp; omega) ?_)
        rw [w64 (x := x0 - 192) (by omega) (by omega), w64 (x := 64 * (x0 - 192)) (by omega) (by omega), w64 (by omega) (by omega)]
        exact Ev.cast (J _) (by unfold cOf; rw [if_neg a1, if_pos ⟨g1, g2, g3⟩])
      · exact three _ (by simpa using fun z => g3 ((y1 x1).1 z)) (fun z => g3 z.2.2)
    · exact Ev.ite_neg g2 (three false (by decide) (fun z => g2 z.1))
  · exact Ev.ite_neg g1 (three false (by decide) (fun z => g1 z.2.1))
end Go.Proofs.YtenbdffgnbibeaaDoor.R
