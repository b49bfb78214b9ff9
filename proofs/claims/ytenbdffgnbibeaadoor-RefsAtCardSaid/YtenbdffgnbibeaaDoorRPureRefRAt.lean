/- References, plainly: what stands at a place of a text: the document's answer is the program's. -/
import Derived.Test.YtenbdffgnbibeaaDoorRPureRefNamed
import Derived.Test.YtenbdffgnbibeaaDoorRPureRefAt
import Derived.Test.YtenbdffgnbibeaaDoorR4
import Derived.Test.YtenbdffgnbibeaaDoorR9
namespace Go.Proofs.YtenbdffgnbibeaaDoor.R
open Go.RowKit Go.Proofs.YtenbdffgnbibeaaDoorW.PrintWords Go.Proofs.YtenbdffgnbibeaaDoorW.PrintLast
set_option linter.unusedSimpArgs false

theorem rnumber_ev {s : ByteArray} {base : Int} {q f : Nat} (hb : base = 10 ∨ base = 16) (hs : s.size ≤ 140737488355328) (hq : q + f ≤ s.size) :
    Ev (fun k => rectoref04_number.f k s ((q + f : Nat) : Int) base) (gotN q (fin ((bl s).drop q) (f : Int) ((f + cnt base (((bl s).drop q).drop f) : Nat) : Int) (accP base (((bl s).drop q).drop f) 0))) := by
  unfold rectoref04_number.f
  refine Ev.cast (rnumber_l0 (fr := ((q + f : Nat) : Int)) hb hs (s.size - (q + f)) (q + f) 0 (by omega) (Int.le_refl _) (by decide)) ?_
  rw [List.drop_drop]
  generalize hc : cnt base ((bl s).drop (q + f)) = c
  unfold finR gotN fin
  by_cases h : c = 0
  · subst h
    rw [if_pos (by omega), if_pos (show (if ((f + 0 : Nat) : Int) = (f : Int) then ((0 : Int), (0 : Int)) else _).2 = 0 by rw [if_pos (by omega)])]
  · rw [if_neg (by omega), if_neg (show ¬ ((f + c : Nat) : Int) = (f : Int) by omega), drop_getD, Int.toNat_natCast, Int.toNat_natCast, Nat.add_assoc]
    simp only
    by_cases h59 : (bl s).getD (q + (f + c)) (-1) = 59
    · rw [if_pos h59, if_pos h59, if_neg (by omega), num_acc hb]
      simp only [Prod.mk.injEq, true_and]; omega
    · rw [if_neg h59, if_neg h59, if_neg (by omega), num_acc hb]
      simp only [Prod.mk.injEq, true_and]; omega
theorem fin_nn {l : List Int} {f : Nat} {c : Nat} {v : Int} : 0 ≤ (fin l (f : Int) ((f + c : Nat) : Int) v).2 := by
  unfold fin
  split
  · exact Int.le_refl _
  · simp only; split <;> omega
theorem gotN_neg {q : Nat} {r : Int × Int} (h : r.2 = 0) : gotN q r = (⟨#[]⟩, -1) := by unfold gotN; rw [if_pos h]
theorem gotN_pos {q : Nat} {r : Int × Int} (h : r.2 > 0) : gotN q r = (strOfNums (encB (orC r.1)), (q : Int) + r.2) := by unfold gotN; rw [if_neg (by omega)]
/-- What is answered behind a reference's beginning. -/
theorem got_or {q : Nat} {r : Int × Int} {x : ByteArray × Int} {A : Nat → Option (ByteArray × Int)} (h0 : 0 ≤ r.2) (h : Ev A (gotN q r)) :
    Ev (fun k => (A k).bind fun g => if g.2 ≥ 0 then some (g.1, g.2) else some x) (if r.2 > 0 then (strOfNums (encB (orC r.1)), (q : Int) + r.2) else x) := by
  by_cases c : r.2 > 0
  · rw [gotN_pos c] at h
    rw [if_pos c]
    exact Ev.bind h (Ev.ite_pos (show (q : Int) + r.2 ≥ 0 by omega) (Ev.now _))
  · rw [gotN_neg (show r.2 = 0 by omega)] at h
    rw [if_neg c]
    exact Ev.bind h (Ev.ite_neg (show ¬ (-1 : Int) ≥ 0 by decide) (Ev.now _))
theorem rAt_in {s : ByteArray} {i : Nat} {v : Bool} (hs : s.size ≤ 140737488355328) (hi : i < s.size) : Ev (fun k => rectoref04_At.f k s (i : Int) v) (strOfNums (atL ((bl s).drop i) v).1, (i : Int) + (atL ((bl s).drop i) v).2) := by
  have hb : bt s (i : Int) = ((bl s).drop i).getD 0 (-1) := by rw [bt_in hi, drop_getD, Nat.add_zero]
  have hne : (bl s).drop i ≠ [] := by rw [drop_at hi]; exact List.cons_ne_nil _ _
  unfold rectoref04_At.f
  refine Ev.ite_neg (by omega) (Ev.step (fun k => by rw [rectoref04_At.j0]) ?_)
  refine Ev.ite_neg (by rw [decide_eq_true_eq]; omega) (Ev.ite_pos (by omega) (Ev.ite_pos (by omega) ?_))
  have e1 : wrap64 ((i : Int) + 1) = ((i + 1 : Nat) : Int) := by rw [w64 (by omega) (by omega)]; rfl
  have e2 : wrap64 ((i : Int) + 2) = ((i + 2 : Nat) : Int) := by rw [w64 (by omega) (by omega)]; rfl
  have e3 : wrap64 ((i : Int) + 3) = ((i + 3 : Nat) : Int) := by rw [w64 (by omega) (by omega)]; rfl
  rw [e1, e2]
  by_cases h38 : bt s (i : Int) = 38
  · refine Ev.ite_pos h38 (Ev.bind (Ev.pure fun _ => at_f s (i + 1)) ?_)
    have ad : ∀ j, (bl s).getD (i + j) (-1) = ((bl s).drop i).getD j (-1) := fun j => (drop_getD ..).symm
    by_cases h35 : (if i + 1 < s.size then bt s ((i + 1 : Nat) : Int) else 0) = 35
    · have g35 := (at_is (by decide)).1 h35
      have h1 := getD_m1 g35 (by decide)
      rw [bl_length] at h1
      refine Ev.ite_pos h35 (Ev.bind (Ev.pure fun _ => at_f s (i + 2)) ?_)
      have ha : (strOfNums (atL ((bl s).drop i) v).1, (i : Int) + (atL ((bl s).drop i) v).2) = if (numL ((bl s).drop (i + 2))).2 > 0 then (strOfNums (encB (orC (numL ((bl s).drop (i + 2))).1)), ((i + 2 : Nat) : Int) + (numL ((bl s).drop (i + 2))).2) else ((⟨#[38]⟩ : ByteArray), ((i + 1 : Nat) : Int)) := by
        unfold atL
        rw [if_pos (hb ▸ h38), if_pos (by rw [← ad]; exact g35), List.drop_drop]
        by_cases q : (numL ((bl s).drop (i + 2))).2 > 0
        · rw [if_pos q, if_pos q]; simp only [Prod.mk.injEq, true_and]; omega
        · rw [if_neg q, if_neg q]; rfl
      rw [ha]
      have J : ∀ b : Bool, (b = true ↔ ((bl s).drop (i + 2)).getD 0 (-1) = 120 ∨ ((bl s).drop (i + 2)).getD 0 (-1) = 88) → Ev (fun k => rectoref04_At.j1 k s (i : Int) b (⟨#[38]⟩ : ByteArray) ((i + 1 : Nat) : Int)) (if (numL ((bl s).drop (i + 2))).2 > 0 then (strOfNums (encB (orC (numL ((bl s).drop (i + 2))).1)), ((i + 2 : Nat) : Int) + (numL ((bl s).drop (i + 2))).2) else ((⟨#[38]⟩ : ByteArray), ((i + 1 : Nat) : Int))) := fun b hbb => by
        refine Ev.step (fun k => by rw [rectoref04_At.j1]) ?_
        rw [e2, e3]
        by_cases q : b = true
        · have hx := hbb.1 q
          have h2 : i + 2 < s.size := by
            have : 0 < ((bl s).drop (i + 2)).length := by rcases hx with z | z <;> exact getD_m1 z (by decide)
            rw [List.length_drop, bl_length] at this
            omega
          have en : numL ((bl s).drop (i + 2)) = fin ((bl s).drop (i + 2)) ((1 : Nat) : Int) ((1 + cnt 16 (((bl s).drop (i + 2)).drop 1) : Nat) : Int) (accP 16 (((bl s).drop (i + 2)).drop 1) 0) := by
            unfold numL; rw [if_pos hx]; rfl
          rw [en]
          exact Ev.ite_pos q (got_or fin_nn (rnumber_ev (q := i + 2) (f := 1) (Or.inr rfl) hs (by omega)))
        · have hx := fun z => q (hbb.2 z)
          have en : numL ((bl s).drop (i + 2)) = fin ((bl s).drop (i + 2)) ((0 : Nat) : Int) ((0 + cnt 10 (((bl s).drop (i + 2)).drop 0) : Nat) : Int) (accP 10 (((bl s).drop (i + 2)).drop 0) 0) := by
            unfold numL; rw [if_neg hx, List.drop_zero, Nat.zero_add]; rfl
          rw [en]
          exact Ev.ite_neg q (got_or fin_nn (rnumber_ev (q := i + 2) (f := 0) (Or.inl rfl) hs (by omega)))
      have d0 : ((bl s).drop (i + 2)).getD 0 (-1) = (bl s).getD (i + 2) (-1) := by rw [drop_getD, Nat.add_zero]
      by_cases h120 : (if i + 2 < s.size then bt s ((i + 2 : Nat) : Int) else 0) = 120
      · exact Ev.ite_pos h120 (J true ⟨fun _ => Or.inl (by rw [d0]; exact (at_is (by decide)).1 h120), fun _ => rfl⟩)
      · refine Ev.ite_neg h120 (J _ ?_)
        rw [beq_iff_eq, at_is (by decide), d0]
        exact ⟨Or.inr, fun z => z.resolve_left fun z => h120 ((at_is (by decide)).2 z)⟩
    · refine Ev.ite_neg h35 ?_
      have ha : (strOfNums (atL ((bl s).drop i) v).1, (i : Int) + (atL ((bl s).drop i) v).2) = if (best ((bl s).drop (i + 1)) v rowsI 0 0).2 > 0 then (strOfNums (encB (orC (best ((bl s).drop (i + 1)) v rowsI 0 0).1)), ((i + 1 : Nat) : Int) + (best ((bl s).drop (i + 1)) v rowsI 0 0).2) else ((⟨#[38]⟩ : ByteArray), ((i + 1 : Nat) : Int)) := by
        unfold atL
        rw [if_pos (hb ▸ h38), if_neg (by rw [← ad]; exact fun z => h35 ((at_is (by decide)).2 z)), List.drop_drop]
        by_cases q : (best ((bl s).drop (i + 1)) v rowsI 0 0).2 > 0
        · rw [if_pos q, if_pos q]; simp only [Prod.mk.injEq, true_and]; omega
        · rw [if_neg q, if_neg q]; rfl
      rw [ha]
      exact got_or (best_le _ v rowsI 0 0 (Int.le_refl _) (by omega)).1 (rnamed_ev hs (by omega))
  · have hl := dec_len hne
    rw [List.length_drop, bl_length] at hl
    refine Ev.ite_neg h38 (Ev.bind (at_ev hi hs) (Ev.bind (refBytes_ev _) (Ev.cast (Ev.now _) ?_)))
    have ha : atL ((bl s).drop i) v = (encB (decL ((bl s).drop i)).1, (decL ((bl s).drop i)).2.1) := by unfold atL; rw [if_neg (hb ▸ h38)]
    have hc : orC (decL ((bl s).drop i)).1 = (decL ((bl s).drop i)).1 := by unfold orC; rw [if_pos (dec_isC ((byt_bl s).drop i |>.head hne))]
    rw [ha, hc, w64 (by omega) (by omega)]
/-- Outside of the text: nothing, and the text's end. -/
theorem refAt_out {s : ByteArray} {i : Int} {v : Bool} (h : i < 0 ∨ (s.size : Int) ≤ i) : Ev (fun k => refs_At.f k s i v) ((⟨#[]⟩ : ByteArray), (s.size : Int)) := by
  unfold refs_At.f
  by_cases q : i < 0
  · exact Ev.ite_pos q (Ev.step (fun k => by rw [refs_At.j0]) (Ev.ite_pos rfl (Ev.now _)))
  · exact Ev.ite_neg q (Ev.step (fun k => by rw [refs_At.j0]) (Ev.ite_pos (by rw [decide_eq_true_eq]; omega) (Ev.now _)))
theorem rAt_out {s : ByteArray} {i : Int} {v : Bool} (h : i < 0 ∨ (s.size : Int) ≤ i) : Ev (fun k => rectoref04_At.f k s i v) ((⟨#[]⟩ : ByteArray), (s.size : Int)) := by
  unfold rectoref04_At.f
  by_cases q : i < 0
  · exact Ev.ite_pos q (Ev.step (fun k => by rw [rectoref04_At.j0]) (Ev.ite_pos rfl (Ev.now _)))
  · exact Ev.ite_neg q (Ev.step (fun k => by rw [rectoref04_At.j0]) (Ev.ite_pos (by rw [decide_eq_true_eq]; omega) (Ev.now _)))
end Go.Proofs.YtenbdffgnbibeaaDoor.R
