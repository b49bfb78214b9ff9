/- UtfBack, plainly: the first character of a character's bytes, with anything behind them, is it; of no number's bytes the stranger. -/
import Derived.Test.YtenbdffgnbibeaaDoorUPureEnc
import Derived.Test.YtenbdffgnbibeaaDoorU2
import Derived.Test.YtenbdffgnbibeaaDoorU3
namespace Go.Proofs.YtenbdffgnbibeaaDoor.U
open Go.RowKit Go.Proofs.YtenbdffgnbibeaaDoorW.PrintWords Go.Proofs.YtenbdffgnbibeaaDoorW.PrintLast

theorem strange_ev {s : ByteArray} (h : bl s ≠ []) : Ev (fun k => utf_strange.f k s) (decide ((decL (bl s)).1 = 65533) && decide ((decL (bl s)).2.1 = 1)) := by
  unfold utf_strange.f
  refine Ev.bind (first_ev s h) ?_
  by_cases e : (decL (bl s)).1 = 65533
  · refine Ev.cast (Ev.ite_pos e (Ev.now _)) ?_
    simp only [two, e, decide_true, Bool.true_and]
    rw [Bool.eq_iff_iff]; simp
  · exact Ev.cast (Ev.ite_neg e (Ev.now false)) (by simp [e])
/-- A character's bytes are right. -/
theorem right_enc {c : Int} (h : isC c = true) : Ev (fun k => utf_Right.f k (strOfNums (encB c))) true := by
  have hb : bl (strOfNums (encB c)) = encB c := bl_strOfNums (encB_range h)
  have hl := encB_length c
  have hz : (strOfNums (encB c)).size = (encB c).length := strOfNums_size _
  have hn : bl (strOfNums (encB c)) ≠ [] := by rw [hb]; exact List.length_pos_iff.1 hl.2
  have hd := dec_enc h []
  rw [List.append_nil] at hd
  unfold utf_Right.f
  refine Ev.step (fun k => by rw [utf_Right.l0]) (Ev.ite_neg (fun e => hn (bl_nil.1 e)) ?_)
  have hs := strange_ev hn
  rw [hb, hd] at hs
  refine Ev.bind hs (Ev.ite_neg ?_ ?_)
  · simp only [Bool.and_eq_true, decide_eq_true_eq, not_and]
    intro e
    rw [e]
    decide
  · have hf := first_ev _ hn
    rw [hb, hd] at hf
    refine Ev.bind hf (Ev.ite_pos (by simp [two]) (Ev.ite_pos (by show ((encB c).length : Int) ≤ _; rw [hz]; exact Int.le_refl _) ?_))
    refine Ev.step (fun k => by rw [utf_Right.l0]) (Ev.ite_pos ?_ (Ev.now true))
    rw [bl_nil, bl_tail, hb]
    show (encB c).drop ((encB c).length : Int).toNat = []
    rw [Int.toNat_natCast, List.drop_length]
theorem UtfBack : rectolaw02_UtfBack.Pure := fun c t _ ht => Ev.rounds (by
  unfold rectolaw02_UtfBack.f
  by_cases g : (t.size : Int) > 1000
  · exact Ev.ite_pos g (Ev.bind euro_ev (Ev.now _))
  have hc := orC_is c
  have hl := encB_length (orC c)
  have hz : (strOfNums (encB (orC c))).size = (encB (orC c)).length := strOfNums_size _
  have hb : bl (strOfNums (encB (orC c)) ++ t) = encB (orC c) ++ bl t := by rw [bl_append, bl_strOfNums (encB_range hc)]
  have hn : bl (strOfNums (encB (orC c)) ++ t) ≠ [] := by
    rw [hb]
    intro e
    have e2 := (List.append_eq_nil_iff.1 e).1
    rw [e2] at hl
    simp at hl
  have hf := first_ev _ hn
  rw [hb, dec_enc hc] at hf
  refine Ev.ite_neg g (Ev.bind (bytes_ev c) (Ev.ite_pos (by omega) (Ev.bind hf (Ev.bind (Ev.pure fun _ => refIs_f c) ?_))))
  have fin : Ev (fun k => if (two (orC c, ((encB (orC c)).length : Int), true)).2 = ((strOfNums (encB (orC c))).size : Int) then ((utf_Right.f k (strOfNums (encB (orC c)))).bind fun t164 => (if t164 = true then ((rectolaw02_euro.f k).bind fun t165 => (some t165)) else (some false))) else (some false)) true :=
    Ev.ite_pos (by rw [hz]; rfl) (Ev.bind (right_enc hc) (Ev.ite_pos rfl (Ev.bind euro_ev (Ev.now _))))
  by_cases h : isC c = true
  · refine Ev.ite_pos h (Ev.ite_pos ?_ fin)
    show orC c = c
    unfold orC
    rw [if_pos h]
  · refine Ev.ite_neg h (Ev.ite_pos ?_ fin)
    show orC c = 65533
    unfold orC
    rw [if_neg h])
end Go.Proofs.YtenbdffgnbibeaaDoor.U
