/- Characters, plainly: small forms, a text without spaces at its ends, its words. -/
import Derived.Test.YtdoapeandigooaaDoorCPureChars
import Derived.Test.YtdoapeandigooaaDoorC5
import Derived.Test.YtdoapeandigooaaDoorC7
import Derived.Test.YtdoapeandigooaaDoorC8
import Derived.Test.YtdoapeandigooaaDoorC9
namespace Go.Proofs.YtdoapeandigooaaDoor.C
open Go.RowKit Go.Proofs.YtdoapeandigooaaDoorW.PrintWords Go.Proofs.YtdoapeandigooaaDoorW.PrintLast
set_option linter.unusedSimpArgs false

/- The small form -/
def lowI (b : Int) : Int := if 65 ≤ b ∧ b ≤ 90 then b + 32 else b
theorem lowI_range {b : Int} (h : 0 ≤ b ∧ b ≤ 255) : 0 ≤ lowI b ∧ lowI b ≤ 255 := by unfold lowI; split <;> omega
theorem lowI_low (b : Int) : lowI (lowI b) = lowI b := by
  unfold lowI
  by_cases h : 65 ≤ b ∧ b ≤ 90
  · rw [if_pos h, if_neg (by omega)]
  · rw [if_neg h, if_neg h]
theorem byt_low {l : List Int} (h : Byt l) : Byt (l.map lowI) := fun x hx => by
  obtain ⟨y, hy, rfl⟩ := List.mem_map.1 hx
  exact lowI_range (h y hy)
theorem low_bl (s : ByteArray) : (⟨(lower8 s).toArray⟩ : ByteArray) = strOfNums ((bl s).map lowI) := bl_inj (by
  rw [bl_strOfNums (byt_low (byt_bl s))]
  show (lower8 s).map (fun b => (b.toNat : Int)) = ((s.data.toList.map fun b => (b.toNat : Int)).map lowI)
  unfold lower8
  rw [List.map_map, List.map_map]
  refine List.map_congr_left fun b _ => ?_
  show ((low8 b).toNat : Int) = lowI b.toNat
  rw [low8_nat]
  unfold lowI
  by_cases h : 65 ≤ b.toNat ∧ b.toNat ≤ 90
  · rw [if_pos h, if_pos (by omega)]
  · rw [if_neg h, if_neg (by omega)])
theorem lower_ev {s : ByteArray} (hs : s.size ≤ 140737488355328) : chars_Lower.f s = some (strOfNums ((bl s).map lowI)) := by
  unfold chars_Lower.f
  rw [if_pos hs, low_bl]
theorem rlower_l {s : ByteArray} (hs : s.size ≤ 100000) : ∀ (n i : Nat) (out : ByteArray), n + i = s.size → out.size + n ≤ 100000 → Ev (fun k => rectoref03_Lower.l0 k s out (i : Int)) (out ++ strOfNums (((bl s).drop i).map lowI))
  | 0, i, out, h, _ => by
    refine Ev.step (fun k => by rw [rectoref03_Lower.l0]) ?_
    rw [List.drop_eq_nil_of_le (by rw [bl_length]; omega)]
    exact Ev.cast (Ev.ite_neg (by omega) (Ev.now _)) (ByteArray.append_empty).symm
  | n + 1, i, out, h, ho => by
    have hlt : i < s.size := by omega
    refine Ev.step (fun k => by rw [rectoref03_Lower.l0]) ?_
    have e1 : wrap64 ((i : Int) + 1) = ((i + 1 : Nat) : Int) := by rw [w64 (by omega) (by omega)]; rfl
    rw [e1, bl_at hlt, List.map_cons]
    have hb := bt_range s (i : Int)
    have app : ∀ (a : Int) (t : List Int), out ++ strOfNums [a] ++ strOfNums t = out ++ strOfNums (a :: t) := fun a t => by
      rw [ByteArray.append_assoc]
      refine congrArg (out ++ ·) (bytes_ext ?_)
      rw [ByteArray.toList_data_append]; rfl
    have go : ∀ a : Int, Ev (fun k => rectoref03_Lower.l0 k s (out ++ strOfNums [a]) ((i + 1 : Nat) : Int)) (out ++ strOfNums (a :: ((bl s).drop (i + 1)).map lowI)) := fun a => by
      have := rlower_l hs n (i + 1) (out ++ strOfNums [a]) (by omega) (by rw [ByteArray.size_append, size_nums]; simp only [List.length_cons, List.length_nil]; omega)
      exact Ev.cast this (app _ _)
    have plain : ¬ (65 ≤ bt s (i : Int) ∧ bt s (i : Int) ≤ 90) → Ev (fun k => if (i : Int) ≤ ((i + 1 : Nat) : Int) then (if ((i + 1 : Nat) : Int) ≤ (s.size : Int) then (if out.size + (s.extract (i : Int).toNat ((i + 1 : Nat) : Int).toNat).size ≤ 9223372036854775807 then (rectoref03_Lower.l0 k s (out ++ (s.extract (i : Int).toNat ((i + 1 : Nat) : Int).toNat)) ((i + 1 : Nat) : Int)) else none) else none) else none) (out ++ strOfNums (lowI (bt s (i : Int)) :: ((bl s).drop (i + 1)).map lowI)) := fun q => by
      rw [Int.toNat_natCast, Int.toNat_natCast, cut_one hlt, show lowI (bt s (i : Int)) = bt s (i : Int) from if_neg q]
      exact Ev.ite_pos (by omega) (Ev.ite_pos (by omega) (Ev.ite_pos (by rw [size_nums]; simp only [List.length_cons, List.length_nil]; omega) (go _)))
    refine Ev.ite_pos (by omega) (Ev.ite_pos (by omega) ?_)
    by_cases h65 : bt s (i : Int) ≥ 65
    · refine Ev.ite_pos h65 ?_
      by_cases h90 : bt s (i : Int) ≤ 90
      · rw [show lowI (bt s (i : Int)) = bt s (i : Int) + 32 from if_pos ⟨h65, h90⟩]
        refine Ev.ite_pos h90 ?_
        have em : (bt s (i : Int) + 32) % 256 = bt s (i : Int) + 32 := by omega
        rw [em]
        exact Ev.ite_pos (f := fun _ => none) (by rw [size_nums]; simp only [List.length_cons, List.length_nil]; omega) (go _)
      · exact Ev.ite_neg h90 (plain fun z => h90 z.2)
    · exact Ev.ite_neg h65 (plain fun z => h65 z.1)
theorem rlower_ev {s : ByteArray} (hs : s.size ≤ 100000) : Ev (fun k => rectoref03_Lower.f k s) (strOfNums ((bl s).map lowI)) := by
  have := rlower_l hs s.size 0 ⟨#[]⟩ rfl (by show 0 + _ ≤ _; omega)
  exact Ev.cast this ByteArray.empty_append
/- Blank -/
theorem blank_bl (s : ByteArray) : blank8 s = (bl s).all spB := by
  unfold blank8 bl
  rw [List.all_map]
  congr 1
  funext b
  rw [Bool.eq_iff_iff, sp_iff]
  show _ ↔ spB (b.toNat : Int) = true
  rw [spB_iff]
  omega
theorem blank_ev (s : ByteArray) : chars_Blank.f s = some ((bl s).all spB) := by rw [← blank_bl]; rfl
theorem rblank_l {s : ByteArray} (hs : s.size ≤ 140737488355328) : ∀ d i : Nat, d + i = s.size → Ev (fun k => rectoref03_Blank.l0 k s (i : Int)) (((bl s).drop i).all spB)
  | 0, i, h => by
    refine Ev.step (fun k => by rw [rectoref03_Blank.l0]) ?_
    rw [List.drop_eq_nil_of_le (by rw [bl_length]; omega)]
    exact Ev.ite_neg (by omega) (Ev.now _)
  | d + 1, i, h => by
    have hlt : i < s.size := by omega
    refine Ev.step (fun k => by rw [rectoref03_Blank.l0]) ?_
    have e1 : wrap64 ((i : Int) + 1) = ((i + 1 : Nat) : Int) := by rw [w64 (by omega) (by omega)]; rfl
    rw [e1, bl_at hlt, List.all_cons]
    refine Ev.ite_pos (by omega) (Ev.ite_pos (by omega) (Ev.bind (Ev.pure fun _ => rspace_f _) ?_))
    by_cases q : spB (bt s (i : Int)) = true
    · rw [q, Bool.true_and]
      exact Ev.ite_pos rfl (rblank_l hs d (i + 1) (by omega))
    · rw [Bool.eq_false_iff.2 q, Bool.false_and]
      exact Ev.ite_neg (by decide) (Ev.now _)
theorem rblank_ev {s : ByteArray} (hs : s.size ≤ 140737488355328) : Ev (fun k => rectoref03_Blank.f k s) ((bl s).all spB) := rblank_l hs s.size 0 rfl
/- Without spaces at its ends -/
def trimR (l : List Int) : List Int := (l.reverse.dropWhile spB).reverse
def trimL (l : List Int) : List Int := trimR (l.dropWhile spB)
theorem trimR_sp {l : List Int} {b : Int} (h : spB b = true) : trimR (l ++ [b]) = trimR l := by
  unfold trimR
  rw [List.reverse_append, List.reverse_cons, List.reverse_nil, List.nil_append, List.singleton_append, List.dropWhile_cons_of_pos h]
theorem trimR_no {l : List Int} {b : Int} (h : ¬ spB b = true) : trimR (l ++ [b]) = l ++ [b] := by
  unfold trimR
  rw [List.reverse_append, List.reverse_cons, List.reverse_nil, List.nil_append, List.singleton_append, List.dropWhile_cons_of_neg h, List.reverse_cons, List.reverse_reverse]
theorem trimR_nil : trimR [] = [] := rfl
theorem snoc (l : List Int) (h : l ≠ []) : ∃ m b, l = m ++ [b] := ⟨l.dropLast, l.getLast h, (List.dropLast_concat_getLast h).symm⟩
theorem trimR_byt {l : List Int} (h : Byt l) : Byt (trimR l) := fun x hx => by
  unfold trimR at hx
  exact h x (List.mem_reverse.1 ((List.dropWhile_sublist _).mem (List.mem_reverse.1 hx)))
theorem trimL_byt {l : List Int} (h : Byt l) : Byt (trimL l) := trimR_byt fun x hx => h x ((List.dropWhile_sublist _).mem hx)
theorem trimR_len (l : List Int) : (trimR l).length ≤ l.length := by
  unfold trimR
  rw [List.length_reverse]
  have := (List.dropWhile_sublist spB (l := l.reverse)).length_le
  rwa [List.length_reverse] at this
theorem trimL_len (l : List Int) : (trimL l).length ≤ l.length := Nat.le_trans (trimR_len _) (List.dropWhile_sublist _).length_le
theorem str_self (s : ByteArray) : strOfNums (bl s) = s := bl_inj (bl_strOfNums fun _ h => bl_range h)
theorem trim_l1 : ∀ (n : Nat) (s : ByteArray), s.size ≤ n → s.size ≤ 140737488355328 → Ev (fun k => chars_Trim.l1 k s) (strOfNums (trimR (bl s)))
  | n, s, h, hs => by
    refine Ev.step (fun k => by rw [chars_Trim.l1]) ?_
    by_cases q : bl s = []
    · refine Ev.ite_pos (bl_nil.2 q) (Ev.cast (Ev.now _) ?_)
      rw [q, trimR_nil]
      exact bl_inj (by rw [q]; rfl)
    · refine Ev.ite_neg (fun z => q (bl_nil.1 z)) ?_
      obtain ⟨m, b, hm⟩ := snoc _ q
      have hl : s.size = m.length + 1 := by rw [← bl_length, hm, List.length_append]; rfl
      have e1 : wrap64 ((s.size : Int) - 1) = ((m.length : Nat) : Int) := by rw [w64 (by omega) (by omega)]; omega
      have hb : bt s ((m.length : Nat) : Int) = b := by
        rw [bt_of hm (by rw [List.length_append]; simp), List.getD_eq_getElem?_getD, List.getElem?_append_right (Nat.le_refl _), Nat.sub_self]; rfl
      rw [e1, hb]
      refine Ev.ite_pos (by omega) (Ev.ite_pos (by omega) (Ev.bind (Ev.pure fun _ => space_f b) ?_))
      by_cases hsp : spB b = true
      · refine Ev.ite_pos hsp (Ev.ite_pos (by omega) ?_)
        rw [Int.toNat_natCast]
        have hx : bl (s.extract 0 m.length) = m := by
          rw [bl_extract, hm, List.drop_zero, Nat.sub_zero, List.take_left]
        have hz : (s.extract 0 m.length).size = m.length := by rw [← bl_length, hx]
        match n, h with
        | n + 1, h =>
          have := trim_l1 n (s.extract 0 m.length) (by omega) (by omega)
          rw [hx] at this
          rw [hm, trimR_sp hsp]
          exact this
        | 0, h => exact absurd h (by omega)
      · refine Ev.ite_neg hsp (Ev.cast (Ev.now _) ?_)
        rw [hm, trimR_no hsp, ← hm, str_self]
theorem trim_l0 : ∀ (n : Nat) (s : ByteArray), s.size ≤ n → s.size ≤ 140737488355328 → Ev (fun k => chars_Trim.l0 k s) (strOfNums (trimL (bl s)))
  | n, s, h, hs => by
    have J : trimL (bl s) = trimR (bl s) → Ev (fun k => chars_Trim.j1 k s) (strOfNums (trimL (bl s))) := fun e => by
      rw [e]
      exact Ev.step (fun k => by rw [chars_Trim.j1]) (trim_l1 _ s (Nat.le_refl _) hs)
    refine Ev.step (fun k => by rw [chars_Trim.l0]) ?_
    by_cases q : s.size = 0
    · have hq : bl s = [] := List.eq_nil_of_length_eq_zero (by rw [bl_length]; exact q)
      exact Ev.ite_pos (bl_nil.2 hq) (J (by rw [hq]; rfl))
    · have hq : (bl s) = bt s 0 :: (bl s).drop 1 := by
        have := bl_at (s := s) (i := 0) (by omega)
        rwa [List.drop_zero] at this
      refine Ev.ite_neg (fun z => by rw [bl_nil.1 z] at hq; cases hq) (Ev.ite_pos (by omega) (Ev.bind (Ev.pure fun _ => space_f _) ?_))
      by_cases hsp : spB (bt s 0) = true
      · refine Ev.ite_pos hsp (Ev.ite_pos (by omega) ?_)
        have hx : bl (s.extract 1 s.size) = (bl s).drop 1 := bl_tail s 1
        have hz : (s.extract 1 s.size).size = s.size - 1 := by rw [← bl_length, hx, List.length_drop, bl_length]
        match n, h with
        | n + 1, h =>
          have := trim_l0 n (s.extract 1 s.size) (by omega) (by omega)
          rw [hx] at this
          refine Ev.cast this ?_
          unfold trimL
          conv => rhs; rw [hq, List.dropWhile_cons_of_pos hsp]
        | 0, h => exact absurd h (by omega)
      · refine Ev.ite_neg hsp (J ?_)
        unfold trimL
        rw [hq, List.dropWhile_cons_of_neg hsp]
theorem trim_ev {s : ByteArray} (hs : s.size ≤ 140737488355328) : Ev (fun k => chars_Trim.f k s) (strOfNums (trimL (bl s))) := trim_l0 _ s (Nat.le_refl _) hs
theorem trim_mid {A M B M1 M2 : List Int} {x y : Int} (hA : ∀ z ∈ A, spB z = true) (hB : ∀ z ∈ B, spB z = true) (h1 : M = x :: M1) (hx : ¬ spB x = true) (h2 : M = M2 ++ [y]) (hy : ¬ spB y = true) : trimL (A ++ M ++ B) = M := by
  unfold trimL
  rw [List.append_assoc, List.dropWhile_append_of_pos hA, h1, List.cons_append, List.dropWhile_cons_of_neg hx, ← List.cons_append, ← h1]
  unfold trimR
  rw [List.reverse_append, List.dropWhile_append_of_pos (fun z hz => hB z (List.mem_reverse.1 hz)), h2, List.reverse_append, List.reverse_cons, List.reverse_nil, List.nil_append, List.singleton_append, List.dropWhile_cons_of_neg hy, List.reverse_cons, List.reverse_reverse]
theorem trim_all {l : List Int} (h : ∀ z ∈ l, spB z = true) : trimL l = [] := by
  unfold trimL
  have : l.dropWhile spB = [] := by
    have := List.dropWhile_append_of_pos (l₂ := []) h
    rwa [List.append_nil] at this
  rw [this]; rfl
theorem take_snoc {s : ByteArray} {i : Nat} (h : i < s.size) : (bl s).take (i + 1) = (bl s).take i ++ [bt s (i : Int)] := by
  have hi : i < (bl s).length := by rw [bl_length]; exact h
  rw [List.take_succ_eq_append_getElem hi, bt_of rfl hi, List.getD_eq_getElem?_getD, List.getElem?_eq_getElem hi]; rfl
theorem rtrim_l {s : ByteArray} (hs : s.size ≤ 140737488355328) : ∀ n i : Nat, n + i = s.size →
    ((∀ z ∈ (bl s).take i, spB z = true) → Ev (fun k => rectoref03_Trim.l0 k s (-1) (-1) (s.size : Int) (i : Int)) (strOfNums (trimL (bl s)))) ∧
    (∀ (A M B M1 M2 : List Int) (x y : Int), (bl s).take i = A ++ M ++ B → (∀ z ∈ A, spB z = true) → (∀ z ∈ B, spB z = true) → M = x :: M1 → ¬ spB x = true → M = M2 ++ [y] → ¬ spB y = true →
      Ev (fun k => rectoref03_Trim.l0 k s (A.length : Int) ((A.length + M2.length : Nat) : Int) (s.size : Int) (i : Int)) (strOfNums (trimL (bl s))))
  | 0, i, h => by
    have e : (bl s).take i = bl s := List.take_of_length_le (by rw [bl_length]; omega)
    refine ⟨fun ha => ?_, fun A M B M1 M2 x y ht hA hB h1 hx h2 hy => ?_⟩
    · rw [e] at ha
      refine Ev.step (fun k => by rw [rectoref03_Trim.l0]) (Ev.ite_neg (by omega) (Ev.ite_pos (by decide) (Ev.cast (Ev.now _) ?_)))
      rw [trim_all ha]; rfl
    · rw [e] at ht
      have hl : s.size = A.length + M.length + B.length := by rw [← bl_length, ht, List.length_append, List.length_append]
      have hm : M.length = M2.length + 1 := by rw [h2, List.length_append]; rfl
      have e1 : wrap64 (((A.length + M2.length : Nat) : Int) + 1) = ((A.length + M.length : Nat) : Int) := by rw [w64 (by omega) (by omega)]; omega
      refine Ev.step (fun k => by rw [rectoref03_Trim.l0]) ?_
      rw [e1]
      refine Ev.ite_neg (by omega) (Ev.ite_neg (by omega) (Ev.ite_pos (by omega) (Ev.ite_pos (by omega) (Ev.ite_pos (by omega) (Ev.cast (Ev.now _) ?_)))))
      rw [Int.toNat_natCast, Int.toNat_natCast, ht, trim_mid hA hB h1 hx h2 hy]
      refine bl_inj ?_
      rw [bl_extract, ht, Nat.add_sub_cancel_left, List.append_assoc, List.drop_left, List.take_left, bl_strOfNums]
      intro z hz
      refine byt_bl s z ?_
      rw [ht]
      exact List.mem_append_left _ (List.mem_append_right _ hz)
  | n + 1, i, h => by
    have hlt : i < s.size := by omega
    obtain ⟨ih1, ih2⟩ := rtrim_l hs n (i + 1) (by omega)
    have e1 : wrap64 ((i : Int) + 1) = ((i + 1 : Nat) : Int) := by rw [w64 (by omega) (by omega)]; rfl
    have hli : ((bl s).take i).length = i := by rw [List.length_take, bl_length]; omega
    refine ⟨fun ha => ?_, fun A M B M1 M2 x y ht hA hB h1 hx h2 hy => ?_⟩
    · refine Ev.step (fun k => by rw [rectoref03_Trim.l0]) ?_
      rw [e1]
      refine Ev.ite_pos (by omega) (Ev.ite_pos (by omega) (Ev.ite_pos (by omega) (Ev.bind (Ev.pure fun _ => rspace_f _) ?_)))
      by_cases q : spB (bt s (i : Int)) = true
      · refine Ev.ite_pos q (ih1 fun z hz => ?_)
        rw [take_snoc hlt] at hz
        rcases List.mem_append.1 hz with hz | hz
        · exact ha z hz
        · rw [List.mem_singleton.1 hz]; exact q
      · refine Ev.ite_neg q (Ev.ite_pos (by decide) ?_)
        have := ih2 ((bl s).take i) [bt s (i : Int)] [] [] [] _ _ (by rw [take_snoc hlt, List.append_nil]) ha (fun z hz => by cases hz) rfl q rfl q
        rw [hli] at this
        exact this
    · have hal : A.length ≤ i := by rw [← hli, ht, List.length_append, List.length_append]; omega
      refine Ev.step (fun k => by rw [rectoref03_Trim.l0]) ?_
      rw [e1]
      refine Ev.ite_pos (by omega) (Ev.ite_pos (by omega) (Ev.ite_pos (by omega) (Ev.bind (Ev.pure fun _ => rspace_f _) ?_)))
      by_cases q : spB (bt s (i : Int)) = true
      · refine Ev.ite_pos q (ih2 A M (B ++ [bt s (i : Int)]) M1 M2 x y (by rw [take_snoc hlt, ht, List.append_assoc]) hA (fun z hz => ?_) h1 hx h2 hy)
        rcases List.mem_append.1 hz with hz | hz
        · exact hB z hz
        · rw [List.mem_singleton.1 hz]; exact q
      · refine Ev.ite_neg q (Ev.ite_neg (by omega) ?_)
        have := ih2 A (M ++ B ++ [bt s (i : Int)]) [] (M1 ++ B ++ [bt s (i : Int)]) (M ++ B) x _ (by rw [take_snoc hlt, ht, List.append_nil, List.append_assoc, List.append_assoc, List.append_assoc]) hA (fun z hz => by cases hz) (by rw [h1]; rfl) hx rfl q
        rw [show A.length + (M ++ B).length = i by rw [← hli, ht, List.length_append, List.length_append, List.length_append]; omega] at this
        exact this
theorem rtrim_ev {s : ByteArray} (hs : s.size ≤ 140737488355328) : Ev (fun k => rectoref03_Trim.f k s) (strOfNums (trimL (bl s))) := (rtrim_l hs s.size 0 rfl).1 fun z hz => by rw [List.take_zero] at hz; cases hz
/- Words -/
/-- The word that a text begins with (empty: none), and those behind it. -/
def wsp : List Int → List Int × List (List Int)
  | [] => ([], [])
  | b :: t => if spB b = true then ([], if (wsp t).1 = [] then (wsp t).2 else (wsp t).1 :: (wsp t).2) else (b :: (wsp t).1, (wsp t).2)
def wordsL (l : List Int) : List (List Int) := if (wsp l).1 = [] then (wsp l).2 else (wsp l).1 :: (wsp l).2
theorem wsp_sp {b : Int} {t : List Int} (h : spB b = true) : wsp (b :: t) = ([], wordsL t) := by rw [wsp, if_pos h]; rfl
theorem wsp_no {b : Int} {t : List Int} (h : ¬ spB b = true) : wsp (b :: t) = (b :: (wsp t).1, (wsp t).2) := by rw [wsp, if_neg h]
theorem words_sp {b : Int} {t : List Int} (h : spB b = true) : wordsL (b :: t) = wordsL t := by
  conv => lhs; unfold wordsL
  rw [wsp_sp h, if_pos rfl]
theorem words_drop : ∀ l : List Int, wordsL (l.dropWhile spB) = wordsL l
  | [] => rfl
  | b :: t => by
    by_cases q : spB b = true
    · rw [List.dropWhile_cons_of_pos q, words_sp q, words_drop t]
    · rw [List.dropWhile_cons_of_neg q]
theorem wsp_snoc {b : Int} (h : spB b = true) : ∀ l : List Int, wsp (l ++ [b]) = wsp l
  | [] => by rw [List.nil_append, wsp_sp h]; rfl
  | x :: t => by rw [List.cons_append, wsp, wsp, wsp_snoc h t]
theorem words_trimR : ∀ (n : Nat) (l : List Int), l.length ≤ n → wordsL (trimR l) = wordsL l
  | n, l, h => by
    by_cases q : l = []
    · rw [q]; rfl
    · obtain ⟨m, b, rfl⟩ := snoc l q
      rw [List.length_append] at h
      by_cases hb : spB b = true
      · match n, h with
        | n + 1, h =>
          rw [trimR_sp hb, words_trimR n m (by simpa using h)]
          unfold wordsL
          rw [wsp_snoc hb]
      · rw [trimR_no hb]
theorem words_trim (l : List Int) : wordsL (trimL l) = wordsL l := by
  unfold trimL
  rw [words_trimR _ _ (Nat.le_refl _), words_drop]
theorem wsp_word {t : List Int} : ∀ w : List Int, (∀ x ∈ w, ¬ spB x = true) → wsp (w ++ t) = (w ++ (wsp t).1, (wsp t).2)
  | [], _ => rfl
  | x :: w, h => by rw [List.cons_append, wsp_no (h x (List.mem_cons_self ..)), wsp_word w fun y hy => h y (List.mem_cons_of_mem _ hy)]; rfl
/-- Does a text end, or go on with a space? -/
def Stop (t : List Int) : Prop := t = [] ∨ ∃ b u, t = b :: u ∧ spB b = true
theorem wsp_stop {t : List Int} (h : Stop t) : wsp t = ([], wordsL t) := by
  rcases h with rfl | ⟨b, u, rfl, hb⟩
  · rfl
  · rw [wsp_sp hb, words_sp hb]
theorem words_word {w t : List Int} (hw : w ≠ []) (h : ∀ x ∈ w, ¬ spB x = true) (ht : Stop t) : wordsL (w ++ t) = w :: wordsL t := by
  conv => lhs; unfold wordsL
  rw [wsp_word w h, wsp_stop ht, List.append_nil, if_neg hw]
theorem wsp_fst {w t : List Int} (h : ∀ x ∈ w, ¬ spB x = true) (ht : Stop t) : (wsp (w ++ t)).1 = w := by
  rw [wsp_word w h, wsp_stop ht, List.append_nil]
theorem wsp_nosp : ∀ l : List Int, (∀ x ∈ (wsp l).1, ¬ spB x = true) ∧ ∀ w ∈ (wsp l).2, w ≠ [] ∧ ∀ x ∈ w, ¬ spB x = true
  | [] => ⟨fun x hx => (by cases hx), fun w hw => (by cases hw)⟩
  | b :: t => by
    obtain ⟨h1, h2⟩ := wsp_nosp t
    by_cases q : spB b = true
    · rw [wsp, if_pos q]
      refine ⟨fun x hx => (by cases hx), fun w hw => ?_⟩
      simp only at hw
      split at hw
      · exact h2 w hw
      · rename_i hn
        rcases List.mem_cons.1 hw with rfl | hw
        · exact ⟨hn, h1⟩
        · exact h2 w hw
    · rw [wsp_no q]
      refine ⟨fun x hx => ?_, h2⟩
      rcases List.mem_cons.1 hx with rfl | hx
      · exact q
      · exact h1 x hx
theorem words_nosp {l w : List Int} (h : w ∈ wordsL l) : w ≠ [] ∧ ∀ x ∈ w, ¬ spB x = true := by
  obtain ⟨h1, h2⟩ := wsp_nosp l
  unfold wordsL at h
  split at h
  · exact h2 w h
  · rename_i hn
    rcases List.mem_cons.1 h with rfl | h
    · exact ⟨hn, h1⟩
    · exact h2 w h
theorem wsp_count : ∀ l : List Int, (wsp l).1.length + (wsp l).2.length ≤ l.length
  | [] => Nat.le_refl _
  | b :: t => by
    have := wsp_count t
    rw [wsp]
    by_cases q : spB b = true
    · rw [if_pos q]
      simp only [List.length_nil, List.length_cons, Nat.zero_add]
      split
      · omega
      · rename_i hn
        have := List.length_pos_iff.2 hn
        rw [List.length_cons]; omega
    · rw [if_neg q]
      simp only [List.length_cons]; omega
theorem trimR_cons {b : Int} (m : List Int) (h : ¬ spB b = true) : trimR (b :: m) = b :: trimR m := by
  unfold trimR
  rw [List.reverse_cons, List.dropWhile_append]
  by_cases q : (m.reverse.dropWhile spB).isEmpty = true
  · rw [if_pos q, List.isEmpty_iff.1 q, List.dropWhile_cons_of_neg h]; rfl
  · rw [if_neg q, List.reverse_append]; rfl
theorem trimL_head (l : List Int) : trimL l = [] ∨ ∃ b m, trimL l = b :: m ∧ ¬ spB b = true := by
  unfold trimL
  induction l with
  | nil => exact Or.inl rfl
  | cons b t ih =>
    by_cases q : spB b = true
    · rw [List.dropWhile_cons_of_pos q]; exact ih
    · rw [List.dropWhile_cons_of_neg q, trimR_cons _ q]; exact Or.inr ⟨b, _, rfl, q⟩
def strs (l : List (List Int)) : List ByteArray := l.map strOfNums
theorem words_l1 {s : ByteArray} (hs : s.size ≤ 100000) {R : List ByteArray} (acc : List ByteArray)
    (next : ∀ w t : List Int, bl s = w ++ t → w ≠ [] → (∀ x ∈ w, ¬ spB x = true) → Stop t → Ev (fun k => chars_Words.l0 k (strOfNums (trimL t)) (acc ++ [strOfNums w])) R) (hacc : acc.length ≤ 200000) :
    ∀ d i : Nat, d + i = s.size → 1 ≤ s.size → (∀ x ∈ (bl s).take i, ¬ spB x = true) → (i = 0 → ¬ spB (bt s 0) = true) → Ev (fun k => chars_Words.l1 k s acc (i : Int)) R
  | d, i, h, h1, hall, h0 => by
    have stop : 0 < i → Stop ((bl s).drop i) → Ev (fun k => if (i : Int) ≤ (s.size : Int) then (if acc.length < 8796093022208 then ((chars_Trim.f k (s.extract (i : Int).toNat s.size)).bind fun t188 => (chars_Words.l0 k t188 (acc ++ [s.extract 0 (i : Int).toNat]))) else none) else none) R := fun hi hst => by
      rw [Int.toNat_natCast]
      have hx : bl (s.extract i s.size) = (bl s).drop i := bl_tail s i
      have hz : (s.extract i s.size).size ≤ 100000 := by rw [← bl_length, hx, List.length_drop, bl_length]; omega
      have ht := trim_ev (s := s.extract i s.size) (by omega)
      rw [hx] at ht
      have hw : s.extract 0 i = strOfNums ((bl s).take i) := bl_inj (by
        rw [bl_extract, List.drop_zero, Nat.sub_zero, bl_strOfNums fun x hx => byt_bl s x (List.mem_of_mem_take hx)])
      rw [hw]
      refine Ev.ite_pos (by omega) (Ev.ite_pos (by omega) (Ev.bind ht ?_))
      exact next _ _ (List.take_append_drop i (bl s)).symm (List.ne_nil_of_length_pos (by rw [List.length_take, bl_length]; omega)) hall hst
    refine Ev.step (fun k => by rw [chars_Words.l1]) ?_
    have e1 : wrap64 ((i : Int) + 1) = ((i + 1 : Nat) : Int) := by rw [w64 (by omega) (by omega)]; rfl
    rw [e1]
    by_cases hlt : i < s.size
    · refine Ev.ite_pos (by omega) (Ev.ite_pos (by omega) (Ev.bind (Ev.pure fun _ => space_f _) ?_))
      by_cases q : spB (bt s (i : Int)) = true
      · have hi : 0 < i := by
          rcases Nat.eq_zero_or_pos i with z | z
          · subst z; exact absurd q (h0 rfl)
          · exact z
        exact Ev.ite_pos q (stop hi (Or.inr ⟨_, _, bl_at hlt, q⟩))
      · match d, h with
        | d + 1, h =>
          refine Ev.ite_neg q (words_l1 hs acc next hacc d (i + 1) (by omega) h1 (fun x hx => ?_) (fun z => by omega))
          rw [take_snoc hlt] at hx
          rcases List.mem_append.1 hx with hx | hx
          · exact hall x hx
          · rw [List.mem_singleton.1 hx]; exact q
        | 0, h => exact absurd h (by omega)
    · exact Ev.ite_neg (by omega) (Ev.ite_pos (by omega) (stop (by omega) (Or.inl (List.drop_eq_nil_of_le (by rw [bl_length]; omega)))))
theorem words_l0 : ∀ (n : Nat) (s : ByteArray) (acc : List ByteArray), s.size ≤ n → s.size ≤ 100000 → acc.length + s.size ≤ 200000 → (bl s = [] ∨ ∃ b m, bl s = b :: m ∧ ¬ spB b = true) →
    Ev (fun k => chars_Words.l0 k s acc) (acc ++ strs (wordsL (bl s)))
  | n, s, acc, h, hs, ha, hd => by
    refine Ev.step (fun k => by rw [chars_Words.l0]) ?_
    rcases hd with q | ⟨b, m, q, hb⟩
    · refine Ev.ite_pos (bl_nil.2 q) (Ev.cast (Ev.now _) ?_)
      rw [q]; exact (List.append_nil _).symm
    · have hz : s.size = m.length + 1 := by rw [← bl_length, q]; rfl
      have b0 : bt s 0 = b := by
        have := bl_at (s := s) (i := 0) (by omega)
        rw [List.drop_zero, q] at this
        exact (List.cons.inj this).1.symm
      refine Ev.ite_neg (fun z => by rw [bl_nil.1 z] at q; cases q) (words_l1 hs acc (fun w t hwt hw hns hst => ?_) (by omega) s.size 0 rfl (by omega) (fun x hx => by rw [List.take_zero] at hx; cases hx) (fun _ => by rw [b0]; exact hb))
      have hlen : s.size = w.length + t.length := by rw [← bl_length, hwt, List.length_append]
      have hwp := List.length_pos_iff.2 hw
      have hbt : Byt t := fun x hx => byt_bl s x (by rw [hwt]; exact List.mem_append_right _ hx)
      have hbl : bl (strOfNums (trimL t)) = trimL t := bl_strOfNums (trimL_byt hbt)
      have htl := trimL_len t
      have hsz : (strOfNums (trimL t)).size = (trimL t).length := size_nums _
      match n, h with
      | n + 1, h =>
        have := words_l0 n (strOfNums (trimL t)) (acc ++ [strOfNums w]) (by omega) (by omega) (by rw [List.length_append]; simp only [List.length_cons, List.length_nil]; omega) (by rw [hbl]; exact trimL_head t)
        rw [hbl, words_trim] at this
        refine Ev.cast this ?_
        rw [hwt, words_word hw hns hst, List.append_assoc]; rfl
      | 0, h => exact absurd h (by omega)
theorem words_ev {s : ByteArray} (hs : s.size ≤ 100000) : Ev (fun k => chars_Words.f k s) (strs (wordsL (bl s))) := by
  unfold chars_Words.f
  refine Ev.bind (trim_ev (by omega)) ?_
  have hbl : bl (strOfNums (trimL (bl s))) = trimL (bl s) := bl_strOfNums (trimL_byt (byt_bl s))
  have htl := trimL_len (bl s)
  have hsz : (strOfNums (trimL (bl s))).size = (trimL (bl s)).length := size_nums _
  rw [bl_length] at htl
  have := words_l0 _ (strOfNums (trimL (bl s))) [] (Nat.le_refl _) (by omega) (by simp only [List.length_nil]; omega) (by rw [hbl]; exact trimL_head _)
  rw [hbl, words_trim, List.nil_append] at this
  exact this
/-- The words that begin at a place or behind it. -/
def from_ (s : ByteArray) (i : Nat) : List (List Int) := if i = 0 ∨ spB (bt s ((i : Int) - 1)) = true then wordsL ((bl s).drop i) else (wsp ((bl s).drop i)).2
theorem rwords_l0 {s : ByteArray} (hs : s.size ≤ 100000) : ∀ (d i : Nat) (acc : List ByteArray), d + i = s.size → acc.length ≤ i → Ev (fun k => rectoref03_Words.l0 k s acc (s.size : Int) (i : Int)) (acc ++ strs (from_ s i))
  | 0, i, acc, h, _ => by
    refine Ev.step (fun k => by rw [rectoref03_Words.l0]) (Ev.ite_neg (by omega) (Ev.cast (Ev.now _) ?_))
    unfold from_
    rw [List.drop_eq_nil_of_le (by rw [bl_length]; omega)]
    have : (if i = 0 ∨ spB (bt s ((i : Int) - 1)) = true then wordsL [] else (wsp []).2) = [] := by split <;> rfl
    rw [this]
    exact (List.append_nil _).symm
  | d + 1, i, acc, h, ha => by
    have hlt : i < s.size := by omega
    have e1 : wrap64 ((i : Int) + 1) = ((i + 1 : Nat) : Int) := by rw [w64 (by omega) (by omega)]; rfl
    have ih := fun acc' h' => rwords_l0 hs d (i + 1) acc' (by omega) h'
    have f1 : from_ s (i + 1) = if spB (bt s (i : Int)) = true then wordsL ((bl s).drop (i + 1)) else (wsp ((bl s).drop (i + 1))).2 := by
      unfold from_
      rw [show (((i + 1 : Nat) : Int) - 1) = (i : Int) by omega]
      by_cases q : spB (bt s (i : Int)) = true
      · rw [if_pos (Or.inr q), if_pos q]
      · rw [if_neg (fun z => z.elim (by omega) q), if_neg q]
    have skip : ∀ b : Bool, b = true → from_ s (i + 1) = from_ s i → Ev (fun k => rectoref03_Words.j1 k s acc (i : Int) (s.size : Int) (i : Int) b) (acc ++ strs (from_ s i)) := fun b hb e => by
      refine Ev.step (fun k => by rw [rectoref03_Words.j1]) ?_
      rw [e1, ← e]
      exact Ev.ite_pos hb (ih acc (by omega))
    have word : ∀ b : Bool, ¬ b = true → ¬ spB (bt s (i : Int)) = true → (i = 0 ∨ spB (bt s ((i : Int) - 1)) = true) → Ev (fun k => rectoref03_Words.j1 k s acc (i : Int) (s.size : Int) (i : Int) b) (acc ++ strs (from_ s i)) := fun b hb q hp => by
      have f0 : from_ s i = (wsp ((bl s).drop i)).1 :: from_ s (i + 1) := by
        rw [f1, if_neg q]
        unfold from_
        rw [if_pos hp]
        unfold wordsL
        rw [bl_at hlt, wsp_no q, if_neg (by simp)]
      have scan : ∀ e z : Nat, e + z = s.size → i ≤ z → (∀ x ∈ ((bl s).drop i).take (z - i), ¬ spB x = true) → Ev (fun k => rectoref03_Words.l1 k s acc (i : Int) (z : Int) (s.size : Int) (i : Int)) (acc ++ strs (from_ s i)) := fun e => by
        have fin : ∀ z : Nat, z ≤ s.size → i ≤ z → (∀ x ∈ ((bl s).drop i).take (z - i), ¬ spB x = true) → Stop ((bl s).drop z) → Ev (fun k => if 0 ≤ (i : Int) then (if (i : Int) ≤ (z : Int) then (if (z : Int) ≤ (s.size : Int) then (if acc.length < 8796093022208 then (rectoref03_Words.l0 k s (acc ++ [s.extract (i : Int).toNat (z : Int).toNat]) (s.size : Int) ((i + 1 : Nat) : Int)) else none) else none) else none) else none) (acc ++ strs (from_ s i)) := fun z hz hiz hall hst => by
          rw [Int.toNat_natCast, Int.toNat_natCast]
          have hw : (wsp ((bl s).drop i)).1 = ((bl s).drop i).take (z - i) := by
            have e : ((bl s).drop i).take (z - i) ++ (bl s).drop z = (bl s).drop i := by
              have := List.take_append_drop (z - i) ((bl s).drop i)
              rwa [List.drop_drop, show i + (z - i) = z by omega] at this
            rw [← e]
            have := wsp_fst hall hst
            rw [this, e]
          have hx : s.extract i z = strOfNums ((wsp ((bl s).drop i)).1) := bl_inj (by
            rw [bl_extract, hw, bl_strOfNums fun x hx => byt_bl s x (List.mem_of_mem_drop (List.mem_of_mem_take hx))])
          rw [hx]
          have := ih (acc ++ [strOfNums ((wsp ((bl s).drop i)).1)]) (by rw [List.length_append]; simp only [List.length_cons, List.length_nil]; omega)
          refine Ev.ite_pos (by omega) (Ev.ite_pos (by omega) (Ev.ite_pos (by omega) (Ev.ite_pos (by omega) (Ev.cast this ?_))))
          rw [f0, List.append_assoc]; rfl
        induction e with
        | zero =>
          intro z hz hiz hall
          refine Ev.step (fun k => by rw [rectoref03_Words.l1]) ?_
          rw [e1]
          exact Ev.ite_neg (by omega) (fin z (by omega) hiz hall (Or.inl (List.drop_eq_nil_of_le (by rw [bl_length]; omega))))
        | succ e ihe =>
          intro z hz hiz hall
          have hzl : z < s.size := by omega
          have e2 : wrap64 ((z : Int) + 1) = ((z + 1 : Nat) : Int) := by rw [w64 (by omega) (by omega)]; rfl
          refine Ev.step (fun k => by rw [rectoref03_Words.l1]) ?_
          rw [e1, e2]
          refine Ev.ite_pos (by omega) (Ev.ite_pos (by omega) (Ev.bind (Ev.pure fun _ => rspace_f _) ?_))
          by_cases qz : spB (bt s (z : Int)) = true
          · exact Ev.ite_pos qz (fin z (by omega) hiz hall (Or.inr ⟨_, _, bl_at hzl, qz⟩))
          · refine Ev.ite_neg qz (ihe (z + 1) (by omega) (by omega) fun x hx => ?_)
            have hzd : z - i < ((bl s).drop i).length := by rw [List.length_drop, bl_length]; omega
            rw [show z + 1 - i = (z - i) + 1 by omega, List.take_succ_eq_append_getElem hzd] at hx
            rcases List.mem_append.1 hx with hx | hx
            · exact hall x hx
            · rw [List.mem_singleton.1 hx, List.getElem_drop]
              have hb : bt s (z : Int) = (bl s)[i + (z - i)]'(by rw [bl_length]; omega) := by
                rw [bt_of (i := z) rfl (by rw [bl_length]; exact hzl), List.getD_eq_getElem?_getD, List.getElem?_eq_getElem (by rw [bl_length]; exact hzl)]
                simp only [Option.getD_some]
                congr 1; omega
              rw [← hb]; exact qz
      refine Ev.step (fun k => by rw [rectoref03_Words.j1]) (Ev.ite_neg hb (scan (s.size - i) i (by omega) (Nat.le_refl _) fun x hx => ?_))
      rw [Nat.sub_self, List.take_zero] at hx
      cases hx
    refine Ev.step (fun k => by rw [rectoref03_Words.l0]) ?_
    refine Ev.ite_pos (by omega) (Ev.ite_pos (by omega) (Ev.ite_pos (by omega) (Ev.bind (Ev.pure fun _ => rspace_f _) ?_)))
    by_cases q : spB (bt s (i : Int)) = true
    · refine Ev.ite_pos q (skip true rfl ?_)
      rw [f1, if_pos q]
      unfold from_
      rw [bl_at hlt, words_sp q, wsp_sp q]
      split <;> rfl
    · refine Ev.ite_neg q ?_
      by_cases hi : i = 0
      · subst hi
        exact Ev.ite_neg (by omega) (word false (by decide) q (Or.inl rfl))
      · have e3 : wrap64 ((i : Int) - 1) = (i : Int) - 1 := w64 (by omega) (by omega)
        rw [e3]
        refine Ev.ite_pos (by omega) (Ev.ite_pos (by omega) (Ev.ite_pos (by omega) (Ev.bind (Ev.pure fun _ => rspace_f _) ?_)))
        by_cases qp : spB (bt s ((i : Int) - 1)) = true
        · rw [qp]; exact word _ (by decide) q (Or.inr qp)
        · rw [Bool.eq_false_iff.2 qp]
          refine skip _ (by decide) ?_
          rw [f1, if_neg q]
          unfold from_
          rw [if_neg (fun z => z.elim hi qp), bl_at hlt, wsp_no q]
theorem rwords_ev {s : ByteArray} (hs : s.size ≤ 100000) : Ev (fun k => rectoref03_Words.f k s) (strs (wordsL (bl s))) := by
  have := rwords_l0 hs s.size 0 [] rfl (Nat.le_refl _)
  have e : from_ s 0 = wordsL (bl s) := by unfold from_; rw [if_pos (Or.inl rfl), List.drop_zero]
  rw [e] at this
  exact this
/- Equal lists of texts -/
theorem rdOf_at {l : List ByteArray} {i : Nat} (h : i < l.length) : rdOf ByteArray.empty l (i : Int) = l[i] := by
  unfold rdOf
  rw [Int.toNat_natCast, List.getD_eq_getElem?_getD, List.getElem?_eq_getElem h]; rfl
theorem texts_l {l : List ByteArray} (hl : l.length ≤ 140737488355328) : ∀ d i : Nat, d + i = l.length → Ev (fun k => rectoplain_Texts.l0 k l l (l.length : Int) (i : Int)) true
  | 0, i, h => Ev.step (fun k => by rw [rectoplain_Texts.l0]) (Ev.ite_neg (by omega) (Ev.cast (Ev.now _) (by simp)))
  | d + 1, i, h => by
    have e1 : wrap64 ((i : Int) + 1) = ((i + 1 : Nat) : Int) := by rw [w64 (by omega) (by omega)]; rfl
    refine Ev.step (fun k => by rw [rectoplain_Texts.l0]) ?_
    rw [e1]
    exact Ev.ite_pos (by omega) (Ev.ite_neg (by omega) (Ev.ite_pos (by omega) (Ev.ite_pos (by omega) (Ev.ite_pos (by omega) (Ev.ite_pos rfl (texts_l hl d (i + 1) (by omega)))))))
theorem texts_ev {l : List ByteArray} (hl : l.length ≤ 140737488355328) : Ev (fun k => rectoplain_Texts.f k l l) true := texts_l hl l.length 0 rfl
theorem strs_len {s : ByteArray} : (strs (wordsL (bl s))).length ≤ s.size := by
  unfold strs wordsL
  rw [List.length_map]
  have := wsp_count (bl s)
  rw [bl_length] at this
  split
  · omega
  · rename_i hn
    have := List.length_pos_iff.2 hn
    rw [List.length_cons]; omega
theorem wsp_parts : ∀ l : List Int, (wsp l).1.length ≤ l.length ∧ (∀ x ∈ (wsp l).1, x ∈ l) ∧ ∀ w ∈ (wsp l).2, w.length ≤ l.length ∧ ∀ x ∈ w, x ∈ l
  | [] => ⟨Nat.le_refl _, fun x hx => (by cases hx), fun w hw => (by cases hw)⟩
  | b :: t => by
    obtain ⟨h0, h1, h2⟩ := wsp_parts t
    by_cases q : spB b = true
    · rw [wsp, if_pos q]
      refine ⟨Nat.zero_le _, fun x hx => (by cases hx), fun w hw => ?_⟩
      simp only at hw
      rw [List.length_cons]
      split at hw
      · exact ⟨by have := (h2 w hw).1; omega, fun x hx => List.mem_cons_of_mem _ ((h2 w hw).2 x hx)⟩
      · rcases List.mem_cons.1 hw with rfl | hw
        · exact ⟨by omega, fun x hx => List.mem_cons_of_mem _ (h1 x hx)⟩
        · exact ⟨by have := (h2 w hw).1; omega, fun x hx => List.mem_cons_of_mem _ ((h2 w hw).2 x hx)⟩
    · rw [wsp_no q]
      refine ⟨by simp only [List.length_cons]; omega, fun x hx => ?_, fun w hw => ?_⟩
      · rcases List.mem_cons.1 hx with rfl | hx
        · exact List.mem_cons_self ..
        · exact List.mem_cons_of_mem _ (h1 x hx)
      · rw [List.length_cons]
        exact ⟨by have := (h2 w hw).1; omega, fun x hx => List.mem_cons_of_mem _ ((h2 w hw).2 x hx)⟩
theorem words_parts {l w : List Int} (h : w ∈ wordsL l) : w.length ≤ l.length ∧ ∀ x ∈ w, x ∈ l := by
  obtain ⟨h0, h1, h2⟩ := wsp_parts l
  unfold wordsL at h
  split at h
  · exact h2 w h
  · rcases List.mem_cons.1 h with rfl | h
    · exact ⟨h0, h1⟩
    · exact h2 w h
theorem byt_words (s : ByteArray) (w : List Int) (h : w ∈ wordsL (bl s)) : Byt w := fun x hx => byt_bl s x ((words_parts h).2 x hx)
theorem len_words (s : ByteArray) (w : List Int) (h : w ∈ wordsL (bl s)) : w.length ≤ (bl s).length := (words_parts h).1
end Go.Proofs.YtdoapeandigooaaDoor.C
