/- References, plainly: a text written with references: the program's and the document's. -/
import Derived.Test.YtdoapeandigooaaDoorPPureRepl
import Derived.Test.YtdoapeandigooaaDoorPPureAll
import Derived.Test.YtdoapeandigooaaDoorP2
import Derived.Test.YtdoapeandigooaaDoorP8
import Derived.Test.YtdoapeandigooaaDoorP9
namespace Go.Proofs.YtdoapeandigooaaDoor.P
open Go.RowKit Go.Proofs.YtdoapeandigooaaDoorW.PrintWords Go.Proofs.YtdoapeandigooaaDoorW.PrintLast
set_option linter.unusedSimpArgs false

/-- A text with references; 'true': the first byte has been taken. -/
def escS (v : Bool) : Bool → List Int → List Int
  | _, [] => []
  | true, _ :: l => escS v false l
  | false, b :: l =>
    if b = 38 then [38, 97, 109, 112, 59] ++ escS v false l
    else if b = 60 then [38, 108, 116, 59] ++ escS v false l
    else if b = 62 then [38, 103, 116, 59] ++ escS v false l
    else if b = 34 ∧ v = true then [38, 113, 117, 111, 116, 59] ++ escS v false l
    else if b = 194 ∧ l.getD 0 (-1) = 160 then [38, 110, 98, 115, 112, 59] ++ escS v true l
    else b :: escS v false l
/-- The pairs of 194 and 160 alone. -/
def nbS : Bool → List Int → List Int
  | _, [] => []
  | true, _ :: l => nbS false l
  | false, b :: l => if b = 194 ∧ l.getD 0 (-1) = 160 then [38, 110, 98, 115, 112, 59] ++ nbS true l else b :: nbS false l
theorem nb_hit (l : List Int) : nbS false (194 :: 160 :: l) = [38, 110, 98, 115, 112, 59] ++ nbS false l := by rw [nbS, if_pos ⟨rfl, rfl⟩, nbS]
theorem nb_miss {b : Int} {l : List Int} (h : ¬ (b = 194 ∧ l.getD 0 (-1) = 160)) : nbS false (b :: l) = b :: nbS false l := by rw [nbS, if_neg h]
def nbsp8 : List UInt8 := [38, 110, 98, 115, 112, 59]
theorem rep2 : ∀ (n : Nat) (l : List UInt8), l.length ≤ n → i8 (Lib.replaceAll l [194, 160] nbsp8) = nbS false (i8 l)
  | _, [], _ => by rw [rA_nil (by simp) (by decide)]; rfl
  | 0, b :: l, h => by simp at h
  | n + 1, b :: l, h => by
    rw [List.length_cons] at h
    by_cases q : ([194, 160] : List UInt8).isPrefixOf (b :: l) = true
    · rw [rA_hit (by simp) (by decide) q]
      rw [List.isPrefixOf_iff_prefix] at q
      obtain ⟨t, ht⟩ := q
      have hl : l = 160 :: t := (List.cons.inj ht).2.symm
      rw [← ht]
      simp only [List.length_cons, List.length_nil, Nat.zero_add, Nat.reduceAdd, List.cons_append, List.nil_append, List.drop_succ_cons, List.drop_zero, i8, List.map_append, List.map_cons]
      rw [show ((194 : UInt8).toNat : Int) = 194 from rfl, show ((160 : UInt8).toNat : Int) = 160 from rfl, nb_hit]
      exact congrArg _ (rep2 n t (by rw [hl, List.length_cons] at h; omega))
    · have q' := Bool.eq_false_iff.2 q
      rw [rA_miss (by simp) (by decide) q']
      simp only [i8, List.map_cons]
      rw [nb_miss]
      · exact congrArg _ (rep2 n l (by omega))
      · rintro ⟨z1, z2⟩
        obtain rfl : b = 194 := i8_inj z1
        cases l with
        | nil => simp at z2
        | cons d t =>
          obtain rfl : d = 160 := i8_inj (by simpa using z2)
          exact q (by simp)
theorem nb_app : ∀ (a l : List Int), (∀ x ∈ a, x ≠ 194) → nbS false (a ++ l) = a ++ nbS false l
  | [], l, _ => rfl
  | b :: a, l, h => by
    rw [List.cons_append, nb_miss (fun z => h b (List.mem_cons_self ..) z.1), nb_app a l fun x hx => h x (List.mem_cons_of_mem _ hx)]; rfl
/-- What is done in the end. -/
def quS (v : Bool) (l : List Int) : List Int := if v = true then fl 34 [38, 113, 117, 111, 116, 59] l else l
theorem qu_app (v : Bool) (a l : List Int) : quS v (a ++ l) = quS v a ++ quS v l := by
  unfold quS
  split
  · rw [fl_app]
  · rfl
/-- The five steps, one behind the other. -/
def steps (v : Bool) (l : List Int) : List Int := quS v (fl 62 [38, 103, 116, 59] (fl 60 [38, 108, 116, 59] (nbS false (fl 38 [38, 97, 109, 112, 59] l))))
theorem late_app (v : Bool) (a l : List Int) : quS v (fl 62 [38, 103, 116, 59] (fl 60 [38, 108, 116, 59] (a ++ l))) = quS v (fl 62 [38, 103, 116, 59] (fl 60 [38, 108, 116, 59] a)) ++ quS v (fl 62 [38, 103, 116, 59] (fl 60 [38, 108, 116, 59] l)) := by rw [fl_app, fl_app, qu_app]
theorem head38 (l : List Int) : (fl 38 [38, 97, 109, 112, 59] l).getD 0 (-1) = l.getD 0 (-1) := by
  cases l with
  | nil => rfl
  | cons b l =>
    rw [fl_cons]
    by_cases q : b = 38
    · rw [if_pos q, q]; rfl
    · rw [if_neg q]; rfl
theorem steps_one {v : Bool} {b : Int} {l : List Int} (h38 : b ≠ 38) (h : ¬ (b = 194 ∧ l.getD 0 (-1) = 160)) : steps v (b :: l) = quS v (fl 62 [38, 103, 116, 59] (fl 60 [38, 108, 116, 59] [b])) ++ steps v l := by
  unfold steps
  rw [fl_cons, if_neg h38, List.singleton_append, nb_miss (by rw [head38]; exact h), ← late_app]; rfl
theorem steps_eq (v : Bool) : ∀ (n : Nat) (l : List Int), l.length ≤ n → steps v l = escS v false l
  | _, [], _ => by cases v <;> rfl
  | 0, b :: l, h => by simp at h
  | n + 1, b :: l, h => by
    rw [List.length_cons] at h
    have ih := steps_eq v n l (by omega)
    rw [escS]
    by_cases h38 : b = 38
    · rw [if_pos h38, ← ih]
      unfold steps
      rw [fl_cons, if_pos h38, nb_app _ _ (by decide), late_app]
      congr 1
      cases v <;> rfl
    rw [if_neg h38]
    by_cases hnb : b = 194 ∧ l.getD 0 (-1) = 160
    · rw [if_neg (by omega), if_neg (by omega), if_neg (by omega), if_pos hnb]
      obtain ⟨rfl, h1⟩ := hnb
      cases l with
      | nil => simp at h1
      | cons d t =>
        obtain rfl : d = 160 := h1
        rw [escS, ← steps_eq v n t (by rw [List.length_cons] at h; omega)]
        unfold steps
        rw [fl_cons, fl_cons, if_neg (by decide), if_neg (by decide), List.singleton_append, List.singleton_append, nb_hit, late_app]
        congr 1
        cases v <;> rfl
    rw [steps_one h38 hnb, ih, if_neg hnb]
    by_cases h60 : b = 60
    · rw [if_pos h60, h60]; congr 1; cases v <;> rfl
    rw [if_neg h60]
    by_cases h62 : b = 62
    · rw [if_pos h62, h62]; congr 1; cases v <;> rfl
    rw [if_neg h62, fl_cons, if_neg h60, fl_nil, List.append_nil, fl_cons, if_neg h62, fl_nil, List.append_nil]
    unfold quS
    by_cases hv : v = true
    · rw [if_pos hv, fl_cons, fl_nil, List.append_nil]
      by_cases h34 : b = 34
      · rw [if_pos h34, if_pos ⟨h34, hv⟩]
      · rw [if_neg h34, if_neg (fun z => h34 z.1)]; rfl
    · rw [if_neg hv, if_neg (fun z => hv z.2)]; rfl
theorem nb_len : ∀ (f : Bool) (l : List Int), (nbS f l).length ≤ 6 * l.length
  | true, [] => Nat.zero_le _
  | false, [] => Nat.zero_le _
  | true, b :: l => by have := nb_len false l; rw [nbS, List.length_cons]; omega
  | false, b :: l => by
    have h1 := nb_len false l
    have h2 := nb_len true l
    rw [nbS]
    split
    · rw [List.length_append, List.length_cons]; simp only [List.length_cons, List.length_nil]; omega
    · rw [List.length_cons, List.length_cons]; omega
theorem escS_len (v : Bool) : ∀ (f : Bool) (l : List Int), (escS v f l).length ≤ 6 * l.length
  | true, [] => Nat.zero_le _
  | false, [] => Nat.zero_le _
  | true, b :: l => by have := escS_len v false l; rw [escS, List.length_cons]; omega
  | false, b :: l => by
    have h1 := escS_len v false l
    have h2 := escS_len v true l
    rw [escS]
    repeat' split
    all_goals first
      | (rw [List.length_append, List.length_cons]; simp only [List.length_cons, List.length_nil]; omega)
      | (rw [List.length_cons, List.length_cons]; omega)
theorem byt_esc (v : Bool) : ∀ (f : Bool) (l : List Int), (∀ x ∈ l, 0 ≤ x ∧ x ≤ 255) → ∀ x ∈ escS v f l, 0 ≤ x ∧ x ≤ 255
  | true, [], _ => fun x hx => by cases hx
  | false, [], _ => fun x hx => by cases hx
  | true, b :: l, h => by rw [escS]; exact byt_esc v false l fun x hx => h x (List.mem_cons_of_mem _ hx)
  | false, b :: l, h => by
    have h1 := byt_esc v false l fun x hx => h x (List.mem_cons_of_mem _ hx)
    have h2 := byt_esc v true l fun x hx => h x (List.mem_cons_of_mem _ hx)
    have hb := h b (List.mem_cons_self ..)
    have J : ∀ (a t : List Int), (∀ x ∈ a, 0 ≤ x ∧ x ≤ 255) → (∀ x ∈ t, 0 ≤ x ∧ x ≤ 255) → ∀ x ∈ a ++ t, 0 ≤ x ∧ x ≤ 255 := fun a t ha ht x hx => (List.mem_append.1 hx).elim (ha x) (ht x)
    rw [escS]
    repeat' split
    all_goals first
      | exact J _ _ (by decide) h1
      | exact J _ _ (by decide) h2
      | exact J [b] _ (fun x hx => by rw [List.mem_singleton.1 hx]; exact hb) h1
/-- The program's. -/
theorem esc_ev {s : ByteArray} {v : Bool} (hs : s.size ≤ 100000) : Ev (fun k => refs_Escape.f k s v) (strOfNums (escS v false (bl s))) := by
  unfold refs_Escape.f
  obtain ⟨r1, e1, b1⟩ := ra1 (s := s) (q := ⟨#[38, 97, 109, 112, 59]⟩) (c := 38) (by omega) (by decide) (by decide)
  have l1 : r1.size ≤ 5 * s.size := by rw [← bl_length, b1, ← bl_length s]; exact fl_len (by decide) (by decide) _
  have e2 := ra_f (s := r1) (p := strOfNums (encB (orC 160))) (q := ⟨#[38, 110, 98, 115, 112, 59]⟩) (by omega) (by decide) (by decide)
  obtain ⟨r2, h2⟩ : ∃ r : ByteArray, r = ⟨(Lib.replaceAll r1.data.toList (strOfNums (encB (orC 160))).data.toList (⟨#[38, 110, 98, 115, 112, 59]⟩ : ByteArray).data.toList).toArray⟩ := ⟨_, rfl⟩
  rw [← h2] at e2
  have b2 : bl r2 = nbS false (bl r1) := by rw [h2]; exact rep2 _ _ (Nat.le_refl _)
  have l2 : r2.size ≤ 6 * r1.size := by rw [← bl_length, b2, ← bl_length r1]; exact nb_len _ _
  obtain ⟨r3, e3, b3⟩ := ra1 (s := r2) (q := ⟨#[38, 108, 116, 59]⟩) (c := 60) (by omega) (by decide) (by decide)
  have l3 : r3.size ≤ 4 * r2.size := by rw [← bl_length, b3, ← bl_length r2]; exact fl_len (by decide) (by decide) _
  obtain ⟨r4, e4, b4⟩ := ra1 (s := r3) (q := ⟨#[38, 103, 116, 59]⟩) (c := 62) (by omega) (by decide) (by decide)
  have l4 : r4.size ≤ 4 * r3.size := by rw [← bl_length, b4, ← bl_length r3]; exact fl_len (by decide) (by decide) _
  obtain ⟨r5, e5, b5⟩ := ra1 (s := r4) (q := ⟨#[38, 113, 117, 111, 116, 59]⟩) (c := 34) (by omega) (by decide) (by decide)
  refine Ev.bind (Ev.pure fun _ => e1) (Ev.bind (bytes_ev 160) (Ev.bind (Ev.pure fun _ => e2) (Ev.bind (Ev.pure fun _ => e3) (Ev.bind (Ev.pure fun _ => e4) ?_))))
  have fin : ∀ r : ByteArray, bl r = quS v (bl r4) → r = strOfNums (escS v false (bl s)) := fun r hr => bl_inj (by
    rw [bl_strOfNums (byt_esc v _ _ fun _ hx => bl_range hx), ← steps_eq v _ _ (Nat.le_refl _), hr, b4, b3, b2, b1]; rfl)
  by_cases hv : v = true
  · refine Ev.ite_pos hv (Ev.bind (Ev.pure fun _ => e5) (Ev.cast (Ev.now _) (fin _ ?_)))
    rw [b5]; unfold quS; rw [if_pos hv]; rfl
  · refine Ev.ite_neg hv (Ev.cast (Ev.now _) (fin _ ?_))
    unfold quS; rw [if_neg hv]
theorem rat_f (s : ByteArray) (i : Nat) : rectoref04_at.f s (i : Int) = some (if i < s.size then bt s (i : Int) else 0) := by
  unfold rectoref04_at.f
  rw [if_neg (by omega)]
  by_cases h : i < s.size
  · rw [if_neg (by omega), if_pos (by omega), if_pos (by omega), if_pos h]
  · rw [if_pos (by omega), if_neg h]
theorem resc_l {s : ByteArray} {v : Bool} (hs : s.size ≤ 100000) : ∀ (n i : Nat) (out : ByteArray), s.size - i ≤ n → i ≤ s.size → out.size + 6 * (s.size - i) ≤ 600000 →
    Ev (fun k => rectoref04_Escape.l0 k s v out (i : Int)) (out ++ strOfNums (escS v false ((bl s).drop i)))
  | 0, i, out, h, hi, _ => by
    refine Ev.step (fun k => by rw [rectoref04_Escape.l0]) ?_
    rw [List.drop_eq_nil_of_le (by rw [bl_length]; omega)]
    exact Ev.cast (Ev.ite_neg (by omega) (Ev.now _)) (ByteArray.append_empty).symm
  | n + 1, i, out, h, hi, ho => by
    refine Ev.step (fun k => by rw [rectoref04_Escape.l0]) ?_
    by_cases q : i = s.size
    · rw [List.drop_eq_nil_of_le (by rw [bl_length]; omega)]
      exact Ev.cast (Ev.ite_neg (by omega) (Ev.now _)) (ByteArray.append_empty).symm
    have e1 : wrap64 ((i : Int) + 1) = ((i + 1 : Nat) : Int) := by rw [w64 (by omega) (by omega)]; rfl
    have e2 : wrap64 (((i + 1 : Nat) : Int) + 1) = ((i + 2 : Nat) : Int) := by rw [w64 (by omega) (by omega)]; rfl
    rw [e1, e2]
    have one : s.extract i (i + 1) = strOfNums [bt s (i : Int)] := bl_inj (by
      have hi : i < s.size := by omega
      rw [bl_extract, bl_at hi, Nat.add_sub_cancel_left, List.take_succ_cons, List.take_zero, bl_strOfNums]
      intro x hx
      rw [List.mem_singleton.1 hx]
      exact bt_range _ _)
    have app : ∀ (a t : List Int), out ++ strOfNums a ++ strOfNums t = out ++ strOfNums (a ++ t) := fun a t => by
      rw [ByteArray.append_assoc]
      refine congrArg (out ++ ·) (bytes_ext ?_)
      rw [ByteArray.toList_data_append]
      show _ = (a ++ t).map _
      rw [List.map_append]; rfl
    have go : ∀ (m : Nat) (a : List Int), m = 1 ∨ (m = 2 ∧ i + 2 ≤ s.size) → a.length ≤ 6 → Ev (fun k => rectoref04_Escape.l0 k s v (out ++ strOfNums a) ((i + m : Nat) : Int)) (out ++ strOfNums (a ++ escS v false ((bl s).drop (i + m)))) := fun m a hm ha => by
      have hz : (strOfNums a).size = a.length := by rw [size_length]; show (a.map _).length = _; rw [List.length_map]
      have := resc_l (v := v) hs n (i + m) (out ++ strOfNums a) (by omega) (by omega) (by rw [ByteArray.size_append, hz]; omega)
      exact Ev.cast this (app _ _)
    refine Ev.ite_pos (by omega) (Ev.ite_pos (by omega) ?_)
    rw [bl_at (show i < s.size by omega), escS]
    by_cases h38 : bt s (i : Int) = 38
    · rw [if_pos h38]
      exact Ev.ite_pos h38 (Ev.ite_pos (by omega) (go 1 [38, 97, 109, 112, 59] (Or.inl rfl) (by decide)))
    rw [if_neg h38]
    refine Ev.ite_neg h38 ?_
    by_cases h60 : bt s (i : Int) = 60
    · rw [if_pos h60]
      exact Ev.ite_pos h60 (Ev.ite_pos (by omega) (go 1 [38, 108, 116, 59] (Or.inl rfl) (by decide)))
    rw [if_neg h60]
    refine Ev.ite_neg h60 ?_
    by_cases h62 : bt s (i : Int) = 62
    · rw [if_pos h62]
      exact Ev.ite_pos h62 (Ev.ite_pos (by omega) (go 1 [38, 103, 116, 59] (Or.inl rfl) (by decide)))
    rw [if_neg h62]
    refine Ev.ite_neg h62 ?_
    by_cases h34 : bt s (i : Int) = 34
    · refine Ev.ite_pos h34 ?_
      by_cases hv : v = true
      · rw [if_pos ⟨h34, hv⟩]
        exact Ev.ite_pos hv (Ev.ite_pos (by omega) (go 1 [38, 113, 117, 111, 116, 59] (Or.inl rfl) (by decide)))
      · rw [if_neg (fun z => hv z.2), if_neg (fun z => by rw [h34] at z; exact absurd z.1 (by decide)), h34]
        exact Ev.ite_neg hv (Ev.ite_pos (by omega) (go 1 [34] (Or.inl rfl) (by decide)))
    rw [if_neg (fun z => h34 z.1)]
    refine Ev.ite_neg h34 ?_
    have plain : Ev (fun k => if (i : Int) ≤ ((i + 1 : Nat) : Int) then (if ((i + 1 : Nat) : Int) ≤ (s.size : Int) then (if out.size + (s.extract (i : Int).toNat ((i + 1 : Nat) : Int).toNat).size ≤ 9223372036854775807 then (rectoref04_Escape.l0 k s v (out ++ (s.extract (i : Int).toNat ((i + 1 : Nat) : Int).toNat)) ((i + 1 : Nat) : Int)) else none) else none) else none) (out ++ strOfNums (bt s (i : Int) :: escS v false ((bl s).drop (i + 1)))) := by
      rw [Int.toNat_natCast, Int.toNat_natCast, one]
      have hz : (strOfNums [bt s (i : Int)]).size = 1 := rfl
      exact Ev.ite_pos (by omega) (Ev.ite_pos (by omega) (Ev.ite_pos (by rw [hz]; omega) (go 1 [bt s (i : Int)] (Or.inl rfl) (by simp))))
    by_cases h194 : bt s (i : Int) = 194
    · refine Ev.ite_pos h194 (Ev.bind (Ev.pure fun _ => rat_f s (i + 1)) ?_)
      have hd : (if i + 1 < s.size then bt s ((i + 1 : Nat) : Int) else 0) = 160 ↔ ((bl s).drop (i + 1)).getD 0 (-1) = 160 := by
        by_cases z : i + 1 < s.size
        · rw [if_pos z, bl_at z]; rfl
        · rw [if_neg z, List.drop_eq_nil_of_le (by rw [bl_length]; omega)]; decide
      by_cases h160 : (if i + 1 < s.size then bt s ((i + 1 : Nat) : Int) else 0) = 160
      · have hlt : i + 1 < s.size := by
          rcases Nat.lt_or_ge (i + 1) s.size with z | z
          · exact z
          · rw [if_neg (by omega)] at h160; exact absurd h160 (by decide)
        generalize hR : (if bt s (i : Int) = 194 ∧ ((bl s).drop (i + 1)).getD 0 (-1) = 160 then [38, 110, 98, 115, 112, 59] ++ escS v true ((bl s).drop (i + 1)) else bt s (i : Int) :: escS v false ((bl s).drop (i + 1))) = R
        rw [if_pos ⟨h194, hd.1 h160⟩, bl_at hlt, escS] at hR
        subst hR
        exact Ev.ite_pos h160 (Ev.ite_pos (by omega) (go 2 [38, 110, 98, 115, 112, 59] (Or.inr ⟨rfl, by omega⟩) (by decide)))
      · generalize hR : (if bt s (i : Int) = 194 ∧ ((bl s).drop (i + 1)).getD 0 (-1) = 160 then [38, 110, 98, 115, 112, 59] ++ escS v true ((bl s).drop (i + 1)) else bt s (i : Int) :: escS v false ((bl s).drop (i + 1))) = R
        rw [if_neg (fun z => h160 (hd.2 z.2))] at hR
        subst hR
        exact Ev.ite_neg h160 plain
    · rw [if_neg (fun z => h194 z.1)]
      exact Ev.ite_neg h194 plain
/-- The document's. -/
theorem resc_ev {s : ByteArray} {v : Bool} (hs : s.size ≤ 100000) : Ev (fun k => rectoref04_Escape.f k s v) (strOfNums (escS v false (bl s))) := by
  have := resc_l (v := v) hs s.size 0 ⟨#[]⟩ (by omega) (by omega) (by show 0 + _ ≤ _; omega)
  exact Ev.cast this (ByteArray.empty_append)
end Go.Proofs.YtdoapeandigooaaDoor.P
