/- References, plainly: the longest reference by a name with which a text begins: the program's. -/
import Derived.Test.YtenbdffgnbibeaaDoorXPureNames
import Derived.Test.YtenbdffgnbibeaaDoorX2
import Derived.Test.YtenbdffgnbibeaaDoorX4
import Derived.Test.YtenbdffgnbibeaaDoorXLib
namespace Go.Proofs.YtenbdffgnbibeaaDoor.X
open Go.RowKit Go.Proofs.YtenbdffgnbibeaaDoorW.PrintWords Go.Proofs.YtenbdffgnbibeaaDoorW.PrintLast
set_option linter.unusedSimpArgs false

/-- The table's rows, in numbers. -/
def rowsI : List (List Int × Int × Bool) := rRefs.map fun p => (p.1.map (fun b => (b.toNat : Int)), p.2.1, p.2.2)
def letB (b : Int) : Bool := (decide (65 ≤ b) && decide (b ≤ 90)) || (decide (97 ≤ b) && decide (b ≤ 122))
def digB (b : Int) : Bool := decide (48 ≤ b) && decide (b ≤ 57)
def wordy (b : Int) : Bool := decide (b = 61) || letB b || digB b
theorem letter_f (b : Int) : chars_Letter.f b = some (letB b) := by
  unfold chars_Letter.f letB
  repeat' split
  all_goals (refine congrArg some ?_; rw [Bool.eq_iff_iff]; simp only [Bool.or_eq_true, Bool.and_eq_true, decide_eq_true_eq, true_iff, Bool.false_eq_true, false_iff]; omega)
theorem digit_f (b : Int) : chars_Digit.f b = some (digB b) := by
  unfold chars_Digit.f digB
  split
  all_goals (refine congrArg some ?_; rw [Bool.eq_iff_iff]; simp only [Bool.and_eq_true, decide_eq_true_eq, Bool.false_eq_true, false_iff]; omega)
/-- How many bytes a row's reference has; 0: there is none. -/
def cand (l : List Int) (v : Bool) (r : List Int × Int × Bool) : Int :=
  if l.take r.1.length = r.1 then
    if l.getD r.1.length (-1) = 59 then (r.1.length : Int) + 1
    else if r.2.2 = true ∧ ¬ (v = true ∧ wordy (l.getD r.1.length (-1)) = true) then (r.1.length : Int) else 0
  else 0
/-- The character and the length of the longest reference. -/
def best (l : List Int) (v : Bool) : List (List Int × Int × Bool) → Int → Int → Int × Int
  | [], c, n => (c, n)
  | r :: rs, c, n => if cand l v r > n then best l v rs r.2.1 (cand l v r) else best l v rs c n
theorem rowsI_row : ∀ i : Fin 28, rowsI.drop i.val = (bl (rd_T75 tab_1 (i.val : Int)).f0, (rd_T75 tab_1 (i.val : Int)).f1, (rd_T75 tab_1 (i.val : Int)).f2) :: rowsI.drop (i.val + 1) := by decide +kernel
theorem rowsI_len : ∀ r ∈ rowsI, 1 ≤ r.1.length ∧ r.1.length ≤ 6 := by decide +kernel
theorem map_inj8 {a b : List UInt8} : a.map (fun b : UInt8 => (b.toNat : Int)) = b.map (fun b : UInt8 => (b.toNat : Int)) ↔ a = b :=
  List.map_inj_right (f := fun b : UInt8 => (b.toNat : Int)) fun a b hab => UInt8.toNat_inj.1 (by exact_mod_cast hab)
theorem hp_iff (s p : ByteArray) : Lib.hasPrefix s.data.toList p.data.toList = true ↔ (bl s).take (bl p).length = bl p := by
  rw [← Lib.hasPrefix_of_take, Bool.and_eq_true, decide_eq_true_eq, beq_iff_eq]
  unfold bl
  rw [List.length_map, ← List.map_take, map_inj8]
  refine ⟨fun h => h.2, fun h => ⟨?_, h⟩⟩
  have := congrArg List.length h
  rw [List.length_take] at this
  omega
theorem bl_mk (x : List UInt8) : bl (⟨x.toArray⟩ : ByteArray) = x.map fun b => (b.toNat : Int) := by simp [bl]
theorem cut_tail {s p : ByteArray} (h : (bl s).take (bl p).length = bl p) : bl (⟨(Lib.trimPrefix s.data.toList p.data.toList).toArray⟩ : ByteArray) = (bl s).drop (bl p).length := by
  rw [bl_mk]
  unfold Lib.trimPrefix
  rw [if_pos ((hp_iff s p).2 h)]
  unfold bl
  rw [List.length_map, List.map_drop]
theorem hp1_f (t : ByteArray) (x : UInt8) : strings_HasPrefix.f t ⟨#[x]⟩ = some (decide ((bl t).getD 0 (-1) = (x.toNat : Int))) := by
  have h1 : ((⟨#[x]⟩ : ByteArray).size : Int) = 1 := rfl
  have hx : bl (⟨#[x]⟩ : ByteArray) = [(x.toNat : Int)] := rfl
  have raw := Lib.hasPrefix_raw t ⟨#[x]⟩
  have iff := hp_iff t ⟨#[x]⟩
  rw [hx, List.length_singleton, take1_iff (by omega)] at iff
  have fin : Lib.hasPrefix t.data.toList (⟨#[x]⟩ : ByteArray).data.toList = decide ((bl t).getD 0 (-1) = (x.toNat : Int)) := by
    rw [Bool.eq_iff_iff, decide_eq_true_eq]; exact iff
  unfold strings_HasPrefix.f stringslite_HasPrefix.f
  by_cases h : (t.size : Int) ≥ ((⟨#[x]⟩ : ByteArray).size : Int)
  · rw [if_pos h, if_pos (by omega), if_pos h]
    rw [← fin, ← raw, decide_eq_true (by omega), Bool.true_and]
    rfl
  · rw [if_neg h]
    rw [← fin, ← raw, decide_eq_false (by omega), Bool.false_and]
    rfl
section
variable {s : ByteArray} {v : Bool}
theorem named_j1 {c n m i x1 : Int} {b : Bool} {x0 : ByteArray} {x2 : Bool} {r : Int × Int}
    (h : if b = true then Ev (fun k => refs_named.l0 k s v c n (wrap64 (i + 1))) r else if m > n then Ev (fun k => refs_named.l0 k s v x1 m (wrap64 (i + 1))) r else Ev (fun k => refs_named.l0 k s v c n (wrap64 (i + 1))) r) :
    Ev (fun k => refs_named.j1 k s v c n m i b x0 x1 x2) r := by
  refine Ev.step (fun k => by rw [refs_named.j1]) ?_
  by_cases hb : b = true
  · rw [if_pos hb] at h; exact Ev.ite_pos hb h
  · rw [if_neg hb] at h
    refine Ev.ite_neg hb ?_
    by_cases hm : m > n
    · rw [if_pos hm] at h; exact Ev.ite_pos hm h
    · rw [if_neg hm] at h; exact Ev.ite_neg hm h
end
theorem getD_m1 {l : List Int} {n : Nat} {x : Int} (h : l.getD n (-1) = x) (hx : x ≠ -1) : n < l.length := by
  rcases Nat.lt_or_ge n l.length with q | q
  · exact q
  · rw [getD_lt q] at h; exact absurd h.symm hx
theorem bt_0 {t : ByteArray} (h : bl t ≠ []) : bt t 0 = (bl t).getD 0 (-1) := by
  rw [bt_bl]
  cases e : bl t with
  | nil => exact absurd e h
  | cons x l => rfl
theorem named_l0 (s : ByteArray) (v : Bool) : ∀ (d i : Nat) (c n : Int), d + i = 28 → 0 ≤ n → Ev (fun k => refs_named.l0 k s v c n (i : Int)) (best (bl s) v (rowsI.drop i) c n)
  | 0, i, c, n, h, _ => by
    obtain rfl : i = 28 := by omega
    refine Ev.step (fun k => by rw [refs_named.l0]) ?_
    exact Ev.ite_neg (by omega) (Ev.now (c, n))
  | d + 1, i, c, n, h, hn0 => by
    have e := rowsI_row ⟨i, by omega⟩
    simp only at e
    have hlen := (rowsI_len _ (List.mem_of_mem_drop (i := i) (by rw [e]; exact List.mem_cons_self ..)))
    simp only [bl_length] at hlen
    have next : ∀ c n, 0 ≤ n → Ev (fun k => refs_named.l0 k s v c n (wrap64 ((i : Int) + 1))) (best (bl s) v (rowsI.drop (i + 1)) c n) := fun c n hn => by
      rw [w64 (by omega) (by omega)]
      exact named_l0 s v d (i + 1) c n (by omega) hn
    rw [e, best]
    refine Ev.step (fun k => by rw [refs_named.l0]) ?_
    refine Ev.ite_pos (by omega) (Ev.ite_pos (by omega) ?_)
    generalize rd_T75 tab_1 (i : Int) = p at hlen ⊢
    refine Ev.bind (a := (⟨(Lib.trimPrefix s.data.toList p.f0.data.toList).toArray⟩, Lib.hasPrefix s.data.toList p.f0.data.toList)) (Ev.pure fun _ => rfl) ?_
    have J : ∀ b : Bool, cand (bl s) v (bl p.f0, p.f1, p.f2) = (if b = true then 0 else (p.f0.size : Int)) → Ev (fun k => refs_named.j1 k s v c n (p.f0.size : Int) (i : Int) b p.f0 p.f1 p.f2) (if cand (bl s) v (bl p.f0, p.f1, p.f2) > n then best (bl s) v (rowsI.drop (i + 1)) p.f1 (cand (bl s) v (bl p.f0, p.f1, p.f2)) else best (bl s) v (rowsI.drop (i + 1)) c n) := fun b hb => by
      refine named_j1 ?_
      cases b with
      | true =>
        rw [if_pos rfl] at hb ⊢
        exact Ev.cast (next c n hn0) (if_neg (by omega)).symm
      | false =>
        rw [if_neg (by decide)] at hb ⊢
        by_cases hm : (p.f0.size : Int) > n
        · rw [if_pos hm]
          rw [hb]
          exact Ev.cast (next _ _ (by omega)) (if_pos hm).symm
        · rw [if_neg hm]
          exact Ev.cast (next c n hn0) (if_neg (by omega)).symm
    by_cases hp : (bl s).take (bl p.f0).length = bl p.f0
    · have ht := cut_tail hp
      have hg : (bl (⟨(Lib.trimPrefix s.data.toList p.f0.data.toList).toArray⟩ : ByteArray)).getD 0 (-1) = (bl s).getD (bl p.f0).length (-1) := by rw [ht, drop_getD, Nat.add_zero]
      generalize (⟨(Lib.trimPrefix s.data.toList p.f0.data.toList).toArray⟩ : ByteArray) = t at ht hg ⊢
      refine Ev.ite_pos ((hp_iff s p.f0).2 hp) (Ev.bind (Ev.pure fun _ => hp1_f t 59) ?_)
      by_cases h59 : (bl s).getD (bl p.f0).length (-1) = 59
      · have hc : cand (bl s) v (bl p.f0, p.f1, p.f2) = wrap64 ((p.f0.size : Int) + 1) := by
          unfold cand
          rw [if_pos hp, if_pos h59, w64 (by omega) (by omega), bl_length]
        refine Ev.ite_pos (decide_eq_true (by rw [hg]; exact h59)) ?_
        rw [hc]
        by_cases hn : wrap64 ((p.f0.size : Int) + 1) > n
        · exact Ev.cast (Ev.ite_pos hn (next _ _ (by omega))) (if_pos hn).symm
        · exact Ev.cast (Ev.ite_neg hn (next _ _ hn0)) (if_neg hn).symm
      refine Ev.ite_neg (by rw [decide_eq_true_eq, hg]; exact h59) ?_
      have hc : cand (bl s) v (bl p.f0, p.f1, p.f2) = if p.f2 = true ∧ ¬ (v = true ∧ wordy ((bl s).getD (bl p.f0).length (-1)) = true) then (p.f0.size : Int) else 0 := by
        unfold cand
        rw [if_pos hp, if_neg h59, bl_length]
      by_cases hf : p.f2 = true
      · refine Ev.ite_pos hf ?_
        by_cases hv : v = true
        · refine Ev.ite_pos hv ?_
          by_cases hn : bl t = []
          · refine Ev.ite_pos (bl_nil.2 hn) (J false ?_)
            have : (bl s).getD (bl p.f0).length (-1) = -1 := by rw [← hg, hn]; rfl
            rw [hc, this, if_pos ⟨hf, fun z => absurd z.2 (by decide)⟩]; rfl
          · have hsz : 0 < t.size := by rw [← bl_length]; exact List.length_pos_iff.2 hn
            have hb : bt t 0 = (bl s).getD (bl p.f0).length (-1) := by rw [bt_0 hn, hg]
            refine Ev.ite_neg (fun e => hn (bl_nil.1 e)) (Ev.ite_pos (by show (0 : Int) < (t.size : Int); omega) ?_)
            rw [← hb] at hc
            by_cases h61 : bt t 0 = 61
            · refine Ev.ite_pos h61 (J true ?_)
              rw [hc, if_neg (fun z => z.2 ⟨hv, by rw [h61]; decide⟩)]; rfl
            refine Ev.ite_neg h61 (Ev.bind (Ev.pure fun _ => letter_f _) ?_)
            by_cases hl : letB (bt t 0) = true
            · refine Ev.ite_pos hl (J true ?_)
              rw [hc, if_neg (fun z => z.2 ⟨hv, by unfold wordy; rw [hl]; simp⟩)]; rfl
            refine Ev.ite_neg hl (Ev.bind (Ev.pure fun _ => digit_f _) (J _ ?_))
            rw [hc]
            have hw : wordy (bt t 0) = digB (bt t 0) := by unfold wordy; rw [decide_eq_false h61, Bool.eq_false_iff.2 hl]; rfl
            rw [hw]
            by_cases hd : digB (bt t 0) = true
            · rw [if_neg (fun z => z.2 ⟨hv, hd⟩), if_pos hd]
            · rw [if_pos ⟨hf, fun z => hd z.2⟩, if_neg hd]
        · refine Ev.ite_neg hv (J false ?_)
          rw [hc, if_pos ⟨hf, fun z => hv z.1⟩]; rfl
      · refine Ev.ite_neg hf (J true ?_)
        rw [hc, if_neg (fun z => hf z.1)]; rfl
    · refine Ev.ite_neg (fun z => hp ((hp_iff s p.f0).1 z)) ?_
      have hc : cand (bl s) v (bl p.f0, p.f1, p.f2) = 0 := by unfold cand; rw [if_neg hp]
      exact Ev.cast (next c n hn0) (if_neg (by omega)).symm
theorem named_ev (s : ByteArray) (v : Bool) : Ev (fun k => refs_named.f k s v) (best (bl s) v rowsI 0 0) := named_l0 s v 28 0 0 0 rfl (Int.le_refl _)
end Go.Proofs.YtenbdffgnbibeaaDoor.X
