/- CharsLower, plainly: the small form of a small form is itself; two texts have the same one just where their letters differ in size alone. -/
import Derived.Test.YtdoapeandigooaaDoorCPureWords
import Derived.Test.YtdoapeandigooaaDoorC10
namespace Go.Proofs.YtdoapeandigooaaDoor.C
open Go.RowKit Go.Proofs.YtdoapeandigooaaDoorW.PrintWords Go.Proofs.YtdoapeandigooaaDoorW.PrintLast

/-- Are two bytes the same but for a letter's size? -/
def alike (x y : Int) : Bool := decide (lowI x = lowI y)
theorem alike_iff {x y : Int} (hx : 0 ≤ x ∧ x ≤ 255) (hy : 0 ≤ y ∧ y ≤ 255) : alike x y = true ↔ x = y ∨ (ltB x = true ∧ ltB y = true ∧ (x = (y + 32) % 256 ∨ y = (x + 32) % 256)) := by
  unfold alike lowI
  rw [decide_eq_true_eq, ltB_iff, ltB_iff]
  by_cases a : 65 ≤ x ∧ x ≤ 90 <;> by_cases b : 65 ≤ y ∧ y ≤ 90
  · rw [if_pos a, if_pos b]; omega
  · rw [if_pos a, if_neg b]; omega
  · rw [if_neg a, if_pos b]; omega
  · rw [if_neg a, if_neg b]; omega
theorem map_low : ∀ {l m : List Int}, l.length = m.length → (l.map lowI = m.map lowI ↔ ∀ i (h : i < l.length) (h' : i < m.length), alike l[i] m[i] = true)
  | [], [], _ => by simp
  | x :: l, y :: m, h => by
    rw [List.map_cons, List.map_cons, List.cons.injEq, map_low (by simpa using h)]
    constructor
    · rintro ⟨h1, h2⟩ i hi hi'
      cases i with
      | zero => exact decide_eq_true h1
      | succ i => exact h2 i (by simpa using hi) (by simpa using hi')
    · intro ha
      exact ⟨of_decide_eq_true (ha 0 (by simp) (by simp)), fun i hi hi' => ha (i + 1) (by simpa using hi) (by simpa using hi')⟩
  | [], _ :: _, h => by simp at h
  | _ :: _, [], h => by simp at h
section
variable {s t : ByteArray}
theorem bt_get {s : ByteArray} {i : Nat} (h : i < s.size) : bt s (i : Int) = (bl s)[i]'(by rw [bl_length]; exact h) := by
  rw [bt_of (i := i) rfl (by rw [bl_length]; exact h), List.getD_eq_getElem?_getD, List.getElem?_eq_getElem (by rw [bl_length]; exact h)]; rfl
theorem lower_end (hs : s.size ≤ 2000) (i : Int) (c : Bool) (hc : c = decide (strOfNums ((bl s).map lowI) = strOfNums ((bl t).map lowI))) : Ev (fun k => rectolaw03_CharsLower.j2 k s t (strOfNums ((bl s).map lowI)) (strOfNums ((bl t).map lowI)) c i false) true := by
  refine Ev.step (fun k => by rw [rectolaw03_CharsLower.j2]) (Ev.ite_neg (by decide) ?_)
  have hz : (strOfNums ((bl s).map lowI)).size = s.size := by rw [size_nums, List.length_map, bl_length]
  have hb : bl (strOfNums ((bl s).map lowI)) = (bl s).map lowI := bl_strOfNums (byt_low (byt_bl s))
  have e := lower_ev (s := strOfNums ((bl s).map lowI)) (by omega)
  have em : (bl (strOfNums ((bl s).map lowI))).map lowI = (bl s).map lowI := by
    rw [hb, List.map_map]
    exact List.map_congr_left fun x _ => lowI_low x
  rw [em] at e
  refine Ev.bind (Ev.pure fun _ => e) (Ev.ite_pos rfl (Ev.ite_pos (by omega) (Ev.ite_pos ?_ (Ev.bind ends_ev (Ev.now _)))))
  rw [hc, Bool.beq_eq_decide_eq, decide_eq_true_eq, Bool.eq_iff_iff, beq_iff_eq, decide_eq_true_eq, toList_eq]
theorem same_iff (h : s.size = t.size) : strOfNums ((bl s).map lowI) = strOfNums ((bl t).map lowI) ↔ ∀ i, i < s.size → alike (bt s (i : Int)) (bt t (i : Int)) = true := by
  have hs := bl_length s
  have ht := bl_length t
  rw [show strOfNums ((bl s).map lowI) = strOfNums ((bl t).map lowI) ↔ (bl s).map lowI = (bl t).map lowI from ⟨fun z => by
    have := congrArg bl z
    rwa [bl_strOfNums (byt_low (byt_bl s)), bl_strOfNums (byt_low (byt_bl t))] at this, fun z => by rw [z]⟩, map_low (by omega)]
  constructor
  · intro ha i hi
    rw [bt_get hi, bt_get (s := t) (by omega)]
    exact ha i (by omega) (by omega)
  · intro ha i hi hi'
    have := ha i (by omega)
    rwa [bt_get (by omega), bt_get (s := t) (by omega)] at this
theorem lower_l (hs : s.size ≤ 2000) (h : s.size = t.size) : ∀ d i : Nat, d + i = s.size → (∀ j, j < i → alike (bt s (j : Int)) (bt t (j : Int)) = true) →
    Ev (fun k => rectolaw03_CharsLower.l0 k s t (strOfNums ((bl s).map lowI)) (strOfNums ((bl t).map lowI)) true (i : Int)) true
  | 0, i, hi, ha => by
    refine Ev.step (fun k => by rw [rectolaw03_CharsLower.l0]) (Ev.ite_pos rfl ?_)
    rw [decide_eq_false (show ¬ (i : Int) < (s.size : Int) by omega)]
    refine lower_end hs _ _ (decide_eq_true ((same_iff h).2 fun j hj => ha j (by omega))).symm
  | d + 1, i, hi, ha => by
    have hlt : i < s.size := by omega
    refine Ev.step (fun k => by rw [rectolaw03_CharsLower.l0]) (Ev.ite_pos rfl ?_)
    rw [decide_eq_true (show (i : Int) < (s.size : Int) by omega)]
    refine Ev.step (fun k => by rw [rectolaw03_CharsLower.j2]) ?_
    have e1 : wrap64 ((i : Int) + 1) = ((i + 1 : Nat) : Int) := by rw [w64 (by omega) (by omega)]; rfl
    rw [e1]
    have rx := bt_range s (i : Int)
    have ry := bt_range t (i : Int)
    have hal := alike_iff rx ry
    have yes : alike (bt s (i : Int)) (bt t (i : Int)) = true → Ev (fun k => rectolaw03_CharsLower.l0 k s t (strOfNums ((bl s).map lowI)) (strOfNums ((bl t).map lowI)) true ((i + 1 : Nat) : Int)) true := fun q =>
      lower_l hs h d (i + 1) (by omega) fun j hj => by
        rcases Nat.lt_or_ge j i with z | z
        · exact ha j z
        · obtain rfl : j = i := by omega
          exact q
    have no : ∀ i' : Int, ¬ alike (bt s (i : Int)) (bt t (i : Int)) = true → Ev (fun k => rectolaw03_CharsLower.l0 k s t (strOfNums ((bl s).map lowI)) (strOfNums ((bl t).map lowI)) false i') true := fun i' q => by
      refine Ev.step (fun k => by rw [rectolaw03_CharsLower.l0]) (Ev.ite_neg (by decide) (lower_end hs _ _ ?_))
      rw [eq_comm, decide_eq_false_iff_not, same_iff h]
      exact fun z => q (z i hlt)
    refine Ev.ite_pos rfl (Ev.ite_pos (by omega) (Ev.ite_pos (by omega) (Ev.ite_pos (by omega) ?_)))
    by_cases q : bt s (i : Int) = bt t (i : Int)
    · exact Ev.ite_pos q (yes (hal.2 (Or.inl q)))
    refine Ev.ite_neg q (Ev.bind (Ev.pure fun _ => letter_f _) ?_)
    by_cases lx : ltB (bt s (i : Int)) = true
    · refine Ev.ite_pos lx (Ev.bind (Ev.pure fun _ => letter_f _) ?_)
      by_cases ly : ltB (bt t (i : Int)) = true
      · refine Ev.ite_pos ly ?_
        by_cases q1 : bt s (i : Int) = (bt t (i : Int) + 32) % 256
        · exact Ev.ite_pos q1 (yes (hal.2 (Or.inr ⟨lx, ly, Or.inl q1⟩)))
        · refine Ev.ite_neg q1 ?_
          by_cases q2 : bt t (i : Int) = (bt s (i : Int) + 32) % 256
          · rw [beq_iff_eq.2 q2]; exact yes (hal.2 (Or.inr ⟨lx, ly, Or.inr q2⟩))
          · rw [beq_eq_false_iff_ne.2 q2]
            exact no _ fun z => by
              rcases hal.1 z with z | ⟨_, _, z | z⟩
              · exact q z
              · exact q1 z
              · exact q2 z
      · exact Ev.ite_neg ly (no _ fun z => (hal.1 z).elim q fun z => ly z.2.1)
    · exact Ev.ite_neg lx (no _ fun z => (hal.1 z).elim q fun z => lx z.1)
end
theorem CharsLower : rectolaw03_CharsLower.Pure := fun s t hs ht => Ev.rounds (by
  have yes : ∀ b : Bool, b = true → Ev (fun k => rectolaw03_CharsLower.j0 k s t b) true := fun b hb =>
    Ev.step (fun k => by rw [rectolaw03_CharsLower.j0]) (Ev.ite_pos hb (Ev.bind ends_ev (Ev.now _)))
  unfold rectolaw03_CharsLower.f
  by_cases big : (s.size : Int) > 2000
  · exact Ev.ite_pos big (yes true rfl)
  refine Ev.ite_neg big ?_
  by_cases big2 : (t.size : Int) > 2000
  · exact yes _ (decide_eq_true big2)
  refine Ev.step (fun k => by rw [rectolaw03_CharsLower.j0]) (Ev.ite_neg (by rw [decide_eq_true_eq]; exact big2) (Ev.bind (Ev.pure fun _ => lower_ev (s := s) (by omega)) (Ev.bind (Ev.pure fun _ => lower_ev (s := t) (by omega)) ?_)))
  by_cases q : s.size = t.size
  · rw [beq_iff_eq.2 (show (s.size : Int) = (t.size : Int) by omega)]
    exact lower_l (by omega) q s.size 0 rfl fun j hj => absurd hj (by omega)
  · rw [beq_eq_false_iff_ne.2 (show (s.size : Int) ≠ (t.size : Int) by omega)]
    refine Ev.step (fun k => by rw [rectolaw03_CharsLower.l0]) (Ev.ite_neg (by decide) (lower_end (by omega) _ _ ?_))
    rw [eq_comm, decide_eq_false_iff_not]
    intro z
    have := congrArg ByteArray.size z
    rw [size_nums, size_nums, List.length_map, List.length_map, bl_length, bl_length] at this
    exact q this)
end Go.Proofs.YtdoapeandigooaaDoor.C
