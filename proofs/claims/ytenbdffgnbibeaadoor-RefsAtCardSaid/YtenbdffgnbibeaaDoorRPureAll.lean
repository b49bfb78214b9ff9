/- UTF-8, plainly: all characters of a text; what is cleaned; what is right. -/
import Derived.Test.YtenbdffgnbibeaaDoorRPureEnc
import Derived.Test.YtenbdffgnbibeaaDoorR10
import Derived.Test.YtenbdffgnbibeaaDoorRClean
namespace Go.Proofs.YtenbdffgnbibeaaDoor.R
open Go.RowKit Go.Proofs.YtenbdffgnbibeaaDoorW.PrintWords Go.Proofs.YtenbdffgnbibeaaDoorW.PrintLast

/-- Bytes. -/
def Byt (l : List Int) : Prop := ∀ x ∈ l, 0 ≤ x ∧ x ≤ 255
theorem byt_bl (s : ByteArray) : Byt (bl s) := fun _ h => bl_range h
theorem Byt.drop {l : List Int} (h : Byt l) (n : Nat) : Byt (l.drop n) := fun x hx => h x (List.mem_of_mem_drop hx)
theorem Byt.head {l : List Int} (h : Byt l) (hn : l ≠ []) : 0 ≤ l.getD 0 (-1) := by
  rcases l with _ | ⟨x, l⟩
  · exact absurd rfl hn
  · have := h x (by simp)
    simp
    omega
def decAll : Nat → List Int → List (Int × Int × Bool)
  | 0, _ => []
  | n + 1, l => if l = [] then [] else decL l :: decAll n (l.drop (decL l).2.1.toNat)
/-- All characters of a text. -/
def all (l : List Int) : List (Int × Int × Bool) := decAll l.length l
theorem decAll_eq : ∀ (n m : Nat) (l : List Int), l.length ≤ n → l.length ≤ m → decAll n l = decAll m l
  | 0, 0, _, _, _ => rfl
  | 0, m + 1, l, h, _ => by
    have : l = [] := List.length_eq_zero_iff.1 (by omega)
    rw [decAll, decAll, if_pos this]
  | n + 1, 0, l, _, h => by
    have : l = [] := List.length_eq_zero_iff.1 (by omega)
    rw [decAll, decAll, if_pos this]
  | n + 1, m + 1, l, hn, hm => by
    rw [decAll, decAll]
    by_cases h : l = []
    · rw [if_pos h, if_pos h]
    · have := dec_len h
      rw [if_neg h, if_neg h, decAll_eq n m _ (by rw [List.length_drop]; omega) (by rw [List.length_drop]; omega)]
theorem all_nil : all [] = [] := rfl
theorem all_cons {l : List Int} (h : l ≠ []) : all l = decL l :: all (l.drop (decL l).2.1.toNat) := by
  have hd := dec_len h
  have hp := List.length_pos_iff.2 h
  unfold all
  obtain ⟨n, hn⟩ : ∃ n, l.length = n + 1 := ⟨l.length - 1, by omega⟩
  rw [hn, decAll, if_neg h, decAll_eq n (l.drop (decL l).2.1.toNat).length _ (by rw [List.length_drop]; omega) (Nat.le_refl _)]
/-- What is cleaned: the characters' bytes, one behind the other. -/
def cleanL (l : List Int) : List Int := (all l).flatMap fun d => encB d.1
def rightL (l : List Int) : Bool := (all l).all fun d => d.2.2
theorem clean_cons {l : List Int} (h : l ≠ []) : cleanL l = encB (decL l).1 ++ cleanL (l.drop (decL l).2.1.toNat) := by
  unfold cleanL
  rw [all_cons h, List.flatMap_cons]
theorem right_cons {l : List Int} (h : l ≠ []) : rightL l = ((decL l).2.2 && rightL (l.drop (decL l).2.1.toNat)) := by
  unfold rightL
  rw [all_cons h, List.all_cons]
/-- Induction along the characters. -/
theorem along {P : List Int → Prop} (h0 : P []) (h1 : ∀ l, l ≠ [] → P (l.drop (decL l).2.1.toNat) → P l) : ∀ l, P l := by
  have : ∀ (n : Nat) (l : List Int), l.length ≤ n → P l := fun n => by
    induction n with
    | zero => intro l hl; rw [List.length_eq_zero_iff.1 (by omega : l.length = 0)]; exact h0
    | succ n ih =>
      intro l hl
      by_cases h : l = []
      · rw [h]; exact h0
      · have := dec_len h
        exact h1 l h (ih _ (by rw [List.length_drop]; omega))
  exact fun l => this l.length l (Nat.le_refl _)
theorem all_length : ∀ l, (all l).length ≤ l.length := by
  refine along ?_ ?_
  · exact Nat.le_refl _
  · intro l h ih
    have hd := dec_len h
    rw [all_cons h, List.length_cons]
    rw [List.length_drop] at ih
    omega
theorem enc_three {c : Int} (h : c = 65533) : (encB c).length = 3 := by subst h; rfl
/-- Three bytes at most for each byte. -/
theorem dec_size {l : List Int} (hb : Byt l) (h : l ≠ []) : ((encB (decL l).1).length : Int) ≤ 3 * (decL l).2.1 := by
  have hd := dec_len h
  cases e : (decL l).2.2 with
  | true =>
    have := (dec_true (hb.head h) e).2
    omega
  | false =>
    rw [dec_false (hb.head h) e]
    decide
theorem clean_length : ∀ l, Byt l → (cleanL l).length ≤ 3 * l.length := by
  refine along ?_ ?_
  · intro _; exact Nat.le_refl _
  · intro l h ih hb
    have hd := dec_len h
    have := dec_size hb h
    have i := ih (hb.drop _)
    rw [clean_cons h, List.length_append]
    rw [List.length_drop] at i
    omega
theorem all_isC : ∀ l, Byt l → ∀ d ∈ all l, isC d.1 = true := by
  refine along ?_ ?_
  · intro _ d hd; cases hd
  · intro l h ih hb d hd
    rw [all_cons h] at hd
    rcases List.mem_cons.1 hd with rfl | hd
    · exact dec_isC (hb.head h)
    · exact ih (hb.drop _) d hd
theorem byt_clean {l : List Int} (hb : Byt l) : Byt (cleanL l) := by
  intro x hx
  obtain ⟨d, hd, hx⟩ := List.mem_flatMap.1 hx
  exact encB_range (all_isC l hb d hd) x hx
/-- Characters' bytes, one behind the other, are these characters, whatever is behind. -/
theorem all_enc (cs : List Int) (hc : ∀ c ∈ cs, isC c = true) (t : List Int) : all (cs.flatMap encB ++ t) = cs.map (fun c => (c, ((encB c).length : Int), true)) ++ all t := by
  induction cs with
  | nil => rfl
  | cons c cs ih =>
    have h := hc c (by simp)
    have hl := encB_length c
    rw [List.flatMap_cons, List.append_assoc]
    have hn : encB c ++ (cs.flatMap encB ++ t) ≠ [] := by
      intro e
      have e2 := (List.append_eq_nil_iff.1 e).1
      rw [e2] at hl
      simp at hl
    rw [all_cons hn, dec_enc h]
    show _ :: all ((encB c ++ (cs.flatMap encB ++ t)).drop ((encB c).length : Int).toNat) = _
    rw [Int.toNat_natCast, List.drop_left, ih (fun x hx => hc x (List.mem_cons_of_mem _ hx))]
    rfl
theorem clean_flat (l : List Int) : cleanL l = ((all l).map fun d => d.1).flatMap encB := by unfold cleanL; rw [List.flatMap_map]
theorem all_clean {l : List Int} (hb : Byt l) (t : List Int) : all (cleanL l ++ t) = ((all l).map fun d => d.1).map (fun c => (c, ((encB c).length : Int), true)) ++ all t := by
  rw [clean_flat]
  exact all_enc _ (fun c hc => by obtain ⟨d, hd, rfl⟩ := List.mem_map.1 hc; exact all_isC l hb d hd) t
theorem all_clean0 {l : List Int} (hb : Byt l) : all (cleanL l) = ((all l).map fun d => d.1).map (fun c => (c, ((encB c).length : Int), true)) := by
  have := all_clean hb []
  rwa [List.append_nil, all_nil, List.append_nil] at this
theorem right_clean {l : List Int} (hb : Byt l) : rightL (cleanL l) = true := by
  unfold rightL
  rw [all_clean0 hb]
  simp
theorem clean_clean {l : List Int} (hb : Byt l) : cleanL (cleanL l) = cleanL l := by
  rw [clean_flat (cleanL l), all_clean0 hb, List.map_map, clean_flat l]
  congr 1
  rw [show ((fun d : Int × Int × Bool => d.1) ∘ fun c => (c, ((encB c).length : Int), true)) = id from rfl, List.map_id]
theorem count_clean {l : List Int} (hb : Byt l) : (all (cleanL l)).length = (all l).length := by rw [all_clean0 hb]; simp
theorem right_join {l m : List Int} (hb : Byt l) (hm : Byt m) : rightL (cleanL l ++ cleanL m) = true := by
  unfold rightL
  rw [all_clean hb, all_clean0 hm]
  simp
theorem count_join {l m : List Int} (hb : Byt l) : (all (cleanL l ++ cleanL m)).length = (all (cleanL l)).length + (all (cleanL m)).length := by
  rw [all_clean hb, all_clean0 hb]
  simp
/-- What is right stays. -/
theorem clean_right : ∀ l, Byt l → rightL l = true → cleanL l = l := by
  refine along ?_ ?_
  · intro _ _; rfl
  · intro l h ih hb hr
    rw [right_cons h, Bool.and_eq_true] at hr
    obtain ⟨h1, h2⟩ := hr
    rw [clean_cons h, ih (hb.drop _) h2, ← (dec_true (hb.head h) h1).1, List.take_append_drop]
theorem clean_iff {l : List Int} (hb : Byt l) : cleanL l = l ↔ rightL l = true :=
  ⟨fun e => by rw [← e]; exact right_clean hb, clean_right l hb⟩

/-! The program's loops. -/
theorem strange_dec {l : List Int} (hb : Byt l) (h : l ≠ []) : (decide ((decL l).1 = 65533) && decide ((decL l).2.1 = 1)) = !(decL l).2.2 := by
  cases e : (decL l).2.2 with
  | true =>
    have := (dec_true (hb.head h) e).2
    by_cases q : (decL l).1 = 65533
    · have := enc_three q
      rw [Bool.and_eq_false_iff.2 (.inr (decide_eq_false (by omega)))]
      rfl
    · rw [Bool.and_eq_false_iff.2 (.inl (decide_eq_false q))]
      rfl
  | false =>
    rw [dec_false (hb.head h) e]
    decide
theorem strange_ev' {s : ByteArray} (h : bl s ≠ []) : Ev (fun k => utf_strange.f k s) (!(decL (bl s)).2.2) := by
  rw [← strange_dec (byt_bl s) h]
  unfold utf_strange.f
  refine Ev.bind (first_ev s h) ?_
  by_cases e : (decL (bl s)).1 = 65533
  · refine Ev.cast (Ev.ite_pos e (Ev.now _)) ?_
    simp only [two, e, decide_true, Bool.true_and]
    rw [Bool.eq_iff_iff]; simp
  · exact Ev.cast (Ev.ite_neg e (Ev.now false)) (by simp [e])
section
variable {s : ByteArray}
theorem cut_ok (h : bl s ≠ []) : 0 ≤ (decL (bl s)).2.1 ∧ (decL (bl s)).2.1 ≤ (s.size : Int) := by
  have := dec_len h
  rw [bl_length] at this
  omega
theorem cut_bl : bl (s.extract ((decL (bl s)).2.1 : Int).toNat s.size) = (bl s).drop (decL (bl s)).2.1.toNat := bl_tail s _
end
theorem right_l (n : Nat) : ∀ s : ByteArray, s.size ≤ n → Ev (fun k => utf_Right.l0 k s) (rightL (bl s)) := by
  induction n with
  | zero =>
    intro s hs
    have h : bl s = [] := List.length_eq_zero_iff.1 (by rw [bl_length]; omega)
    refine Ev.step (fun k => by rw [utf_Right.l0]) ?_
    rw [h]
    exact Ev.ite_pos (bl_nil.2 h) (Ev.now true)
  | succ n ih =>
    intro s hs
    refine Ev.step (fun k => by rw [utf_Right.l0]) ?_
    by_cases h : bl s = []
    · rw [h]; exact Ev.ite_pos (bl_nil.2 h) (Ev.now true)
    refine Ev.ite_neg (fun e => h (bl_nil.1 e)) (Ev.bind (strange_ev' h) ?_)
    rw [right_cons h]
    cases e : (decL (bl s)).2.2 with
    | false => exact Ev.ite_pos rfl (Ev.now false)
    | true =>
      have hd := dec_len h
      have hc := cut_ok h
      refine Ev.ite_neg (by decide) (Ev.bind (first_ev s h) (Ev.ite_pos hc.1 (Ev.ite_pos hc.2 ?_)))
      have := ih (s.extract ((decL (bl s)).2.1 : Int).toNat s.size) (by rw [← bl_length, cut_bl, List.length_drop, bl_length]; rw [bl_length] at hd; omega)
      rw [cut_bl] at this
      exact this
theorem right_ev (s : ByteArray) : Ev (fun k => utf_Right.f k s) (rightL (bl s)) := right_l s.size s (Nat.le_refl _)
def u8s (l : List Int) : List UInt8 := l.map fun n => UInt8.ofNat n.toNat
theorem u8s_data (l : List Int) : (strOfNums l).data.toList = u8s l := rfl
theorem clean_l (n : Nat) : ∀ (s : ByteArray) (out : List UInt8), s.size ≤ n → out.length + 3 * s.size ≤ 140737488355328 → Ev (fun k => utf_Clean.l0 k s out) ⟨(out ++ u8s (cleanL (bl s))).toArray⟩ := by
  induction n with
  | zero =>
    intro s out hs _
    have h : bl s = [] := List.length_eq_zero_iff.1 (by rw [bl_length]; omega)
    refine Ev.step (fun k => by rw [utf_Clean.l0]) ?_
    refine Ev.cast (Ev.ite_pos (bl_nil.2 h) (Ev.now _)) ?_
    rw [h]; simp [cleanL, all_nil, u8s]
  | succ n ih =>
    intro s out hs h1
    refine Ev.step (fun k => by rw [utf_Clean.l0]) ?_
    by_cases h : bl s = []
    · refine Ev.cast (Ev.ite_pos (bl_nil.2 h) (Ev.now _)) ?_
      rw [h]; simp [cleanL, all_nil, u8s]
    have hd := dec_len h
    have hc := cut_ok h
    have hi := dec_isC ((byt_bl s).head h)
    have hz := dec_size (byt_bl s) h
    have hb := bytes_ev (decL (bl s)).1
    rw [show orC (decL (bl s)).1 = (decL (bl s)).1 by unfold orC; rw [if_pos hi]] at hb
    have hsz : (strOfNums (encB (decL (bl s)).1)).size = (encB (decL (bl s)).1).length := strOfNums_size _
    have h4 := encB_length (decL (bl s)).1
    have hcut : (s.extract ((decL (bl s)).2.1 : Int).toNat s.size).size = s.size - (decL (bl s)).2.1.toNat := by rw [← bl_length, cut_bl, List.length_drop, bl_length]
    rw [bl_length] at hd
    refine Ev.ite_neg (fun e => h (bl_nil.1 e)) (Ev.bind (first_ev s h) (Ev.bind hb (Ev.ite_pos (by omega) (Ev.ite_pos hc.1 (Ev.ite_pos hc.2 ?_)))))
    have := ih (s.extract ((decL (bl s)).2.1 : Int).toNat s.size) (out ++ (strOfNums (encB (decL (bl s)).1)).data.toList) (by omega) (by
      rw [List.length_append, u8s_data, u8s, List.length_map]
      omega)
    rw [cut_bl] at this
    refine Ev.cast this ?_
    rw [clean_cons h, u8s_data, List.append_assoc]
    simp only [u8s, List.map_append]
theorem clean_ev {s : ByteArray} (hs : s.size ≤ 46912496118442) : Ev (fun k => utf_Clean.f k s) (strOfNums (cleanL (bl s))) :=
  Ev.cast (clean_l s.size s [] (Nat.le_refl _) (by simp; omega)) (by simp [u8s, strOfNums])
theorem bl_clean (s : ByteArray) : bl (strOfNums (cleanL (bl s))) = cleanL (bl s) := bl_strOfNums (byt_clean (byt_bl s))
end Go.Proofs.YtenbdffgnbibeaaDoor.R
