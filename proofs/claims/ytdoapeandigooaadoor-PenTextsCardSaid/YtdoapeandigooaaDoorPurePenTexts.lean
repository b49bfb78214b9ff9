/- PenTexts, plainly: the text of characters, of what is read as it is, of comments, or that there is none. -/
import Derived.Test.YtdoapeandigooaaDoorPPureRaw
import Derived.Test.YtdoapeandigooaaDoorP11
import Derived.Test.YtdoapeandigooaaDoorP5
import Derived.Test.YtdoapeandigooaaDoorP7
namespace Go.Proofs.YtdoapeandigooaaDoor.P
open Go.RowKit Go.Proofs.YtdoapeandigooaaDoorW.PrintWords Go.Proofs.YtdoapeandigooaaDoorW.PrintLast

def charsG (s : ByteArray) : ByteArray × Int := if s.size ≠ 0 ∧ goodB s = true then (strOfNums (escS false false (bl s)), 0) else (⟨#[]⟩, 4)
theorem chars_ev {s : ByteArray} (hs : s.size ≤ 100000) : Ev (fun k => pen_Chars.f k s) (charsG s) := by
  unfold pen_Chars.f charsG
  by_cases h0 : s.size = 0
  · rw [if_neg (fun z => z.1 h0)]; exact Ev.ite_pos ((nil_iff s).2 h0) (Ev.now _)
  refine Ev.ite_neg (fun z => h0 ((nil_iff s).1 z)) (Ev.bind (good_ev hs) ?_)
  by_cases g : goodB s = true
  · rw [if_pos ⟨h0, g⟩]; exact Ev.ite_pos g (Ev.bind (esc_ev hs) (Ev.now _))
  · rw [if_neg (fun z => g z.2)]; exact Ev.ite_neg g (Ev.now _)
theorem rchars_ev {s : ByteArray} (hs : s.size ≤ 100000) : Ev (fun k => rectoref06_Chars.f k s) (charsG s) := by
  unfold rectoref06_Chars.f charsG
  by_cases h0 : s.size = 0
  · rw [if_neg (fun z => z.1 h0)]; exact Ev.ite_pos ((nil_iff s).2 h0) (Ev.now _)
  refine Ev.ite_neg (fun z => h0 ((nil_iff s).1 z)) (Ev.bind (rgood_ev hs) ?_)
  by_cases g : goodB s = true
  · rw [if_pos ⟨h0, g⟩]; exact Ev.ite_pos g (Ev.bind (resc_ev hs) (Ev.now _))
  · rw [if_neg (fun z => g z.2)]; exact Ev.ite_neg g (Ev.now _)
/-- Does a text end so? -/
def sufB (P : List Int) (l : List Int) : Bool := if P.length ≤ l.length then P.isPrefixOf (l.drop (l.length - P.length)) else false
theorem suf_f {s x : ByteArray} (hs : s.size ≤ 100000) : strings_HasSuffix.f s x = some (sufB (bl x) (bl s)) := by
  rw [hasSuf_f hs]
  unfold sufB
  rw [bl_length, bl_length]
theorem rsuf_f {s x : ByteArray} {m : Int} (hm : m = (x.size : Int)) (hs : s.size ≤ 100000) (hx : x.size ≤ 100000) : rectoref06_at.f s (wrap64 ((s.size : Int) - m)) x = some (sufB (bl x) (bl s)) := by
  subst hm
  rw [w64 (by omega) (by omega)]
  unfold sufB
  rw [bl_length, bl_length]
  by_cases h : x.size ≤ s.size
  · rw [if_pos h, show (s.size : Int) - (x.size : Int) = ((s.size - x.size : Nat) : Int) by omega]
    exact at6_f hs hx (by omega)
  · rw [if_neg h]
    exact at6_neg (by omega)
/-- What must not be for a comment. -/
def noteBad (s : ByteArray) : Bool := !goodB s || ([62] : List Int).isPrefixOf (bl s) || ([45, 62] : List Int).isPrefixOf (bl s) || hasL [45, 45, 62] (bl s) || hasL [45, 45, 33, 62] (bl s) || sufB [45] (bl s) || sufB [45, 45, 33] (bl s)
def noteG (s : ByteArray) : ByteArray × Int := if noteBad s = true then (⟨#[]⟩, 4) else (noteS s, 0)
theorem note_bad {s : ByteArray} (h : noteBad s = true) : noteG s = (⟨#[]⟩, 4) := if_pos h
theorem note_ev {s : ByteArray} (hs : s.size ≤ 100000) : Ev (fun k => pen_Note.f k s) (noteG s) := by
  have bad : noteBad s = true → Ev (fun _ => some ((⟨#[]⟩ : ByteArray), (4 : Int))) (noteG s) := fun z => Ev.cast (Ev.now _) (note_bad z).symm
  unfold pen_Note.f
  refine Ev.ite_pos (by omega) ?_
  by_cases h1 : has1 s = true
  · exact Ev.ite_pos h1 (bad (by rw [has1_bl] at h1; unfold noteBad; rw [h1]; simp))
  refine Ev.ite_neg h1 ?_
  by_cases h2 : has2 s = true
  · exact Ev.ite_pos h2 (bad (by rw [has2_bl] at h2; unfold noteBad; rw [h2]; simp))
  refine Ev.ite_neg h2 ?_
  unfold noteR
  refine Ev.bind (good_ev hs) ?_
  by_cases g : goodB s = true
  case neg => exact Ev.ite_neg g (bad (by unfold noteBad; rw [Bool.eq_false_iff.2 g]; rfl))
  refine Ev.ite_pos g (Ev.bind (Ev.pure fun _ => hasPre_f) ?_)
  by_cases q1 : ([62] : List Int).isPrefixOf (bl s) = true
  · exact Ev.ite_pos q1 (bad (by unfold noteBad; rw [q1]; simp))
  refine Ev.ite_neg q1 (Ev.bind (Ev.pure fun _ => hasPre_f) ?_)
  by_cases q2 : ([45, 62] : List Int).isPrefixOf (bl s) = true
  · exact Ev.ite_pos q2 (bad (by unfold noteBad; rw [q2]; simp))
  refine Ev.ite_neg q2 (Ev.bind (Ev.pure fun _ => suf_f hs) ?_)
  by_cases q3 : sufB [45] (bl s) = true
  · exact Ev.ite_pos q3 (bad (by unfold noteBad; rw [q3]; simp))
  refine Ev.ite_neg q3 (Ev.bind (Ev.pure fun _ => suf_f hs) ?_)
  by_cases q4 : sufB [45, 45, 33] (bl s) = true
  · exact Ev.ite_pos q4 (bad (by unfold noteBad; rw [q4]; simp))
  refine Ev.ite_neg q4 (Ev.cast (Ev.now _) ?_)
  unfold noteG
  rw [if_neg]
  unfold noteBad
  rw [has1_bl] at h1
  rw [has2_bl] at h2
  rw [g, Bool.eq_false_iff.2 h1, Bool.eq_false_iff.2 h2, Bool.eq_false_iff.2 q1, Bool.eq_false_iff.2 q2, Bool.eq_false_iff.2 q3, Bool.eq_false_iff.2 q4]
  decide
theorem rnote_ev {s : ByteArray} (hs : s.size ≤ 100000) : Ev (fun k => rectoref06_Note.f k s) (noteG s) := by
  have bad : noteBad s = true → Ev (fun _ => some ((⟨#[]⟩ : ByteArray), (4 : Int))) (noteG s) := fun z => Ev.cast (Ev.now _) (note_bad z).symm
  unfold rectoref06_Note.f
  refine Ev.bind (rgood_ev hs) ?_
  by_cases g : goodB s = true
  case neg => exact Ev.ite_neg g (bad (by unfold noteBad; rw [Bool.eq_false_iff.2 g]; rfl))
  have a0 : ∀ x : ByteArray, x.size ≤ 100000 → rectoref06_at.f s 0 x = some ((bl x).isPrefixOf (bl s)) := fun x hx => by
    have := at6_f (s := s) (x := x) (i := 0) hs hx (Nat.zero_le _)
    rwa [List.drop_zero] at this
  refine Ev.ite_pos g (Ev.bind (Ev.pure fun _ => a0 _ (by decide)) ?_)
  by_cases q1 : ([62] : List Int).isPrefixOf (bl s) = true
  · exact Ev.ite_pos q1 (bad (by unfold noteBad; rw [q1]; simp))
  refine Ev.ite_neg q1 (Ev.bind (Ev.pure fun _ => a0 _ (by decide)) ?_)
  by_cases q2 : ([45, 62] : List Int).isPrefixOf (bl s) = true
  · exact Ev.ite_pos q2 (bad (by unfold noteBad; rw [q2]; simp))
  refine Ev.ite_neg q2 (Ev.bind (rhas_ev hs (by decide)) ?_)
  by_cases h1 : hasL [45, 45, 62] (bl s) = true
  · exact Ev.ite_pos h1 (bad (by unfold noteBad; rw [h1]; simp))
  refine Ev.ite_neg h1 (Ev.bind (rhas_ev hs (by decide)) ?_)
  by_cases h2 : hasL [45, 45, 33, 62] (bl s) = true
  · exact Ev.ite_pos h2 (bad (by unfold noteBad; rw [h2]; simp))
  refine Ev.ite_neg h2 (Ev.bind (Ev.pure fun _ => rsuf_f rfl hs (by decide)) ?_)
  by_cases q3 : sufB [45] (bl s) = true
  · exact Ev.ite_pos q3 (bad (by unfold noteBad; rw [q3]; simp))
  refine Ev.ite_neg q3 (Ev.bind (Ev.pure fun _ => rsuf_f rfl hs (by decide)) ?_)
  by_cases q4 : sufB [45, 45, 33] (bl s) = true
  · exact Ev.ite_pos q4 (bad (by unfold noteBad; rw [q4]; simp))
  have hz : ((⟨#[60, 33, 45, 45]⟩ : ByteArray) ++ s).size = 4 + s.size := by rw [ByteArray.size_append]; rfl
  refine Ev.ite_neg q4 (Ev.ite_pos (by omega) (Ev.ite_pos (by omega) (Ev.cast (Ev.now _) ?_)))
  unfold noteG
  rw [if_neg]
  · rfl
  unfold noteBad
  rw [g, Bool.eq_false_iff.2 h1, Bool.eq_false_iff.2 h2, Bool.eq_false_iff.2 q1, Bool.eq_false_iff.2 q2, Bool.eq_false_iff.2 q3, Bool.eq_false_iff.2 q4]
  decide
theorem PenTexts : rectolaw06_PenTexts.Pure := fun s nm hs hn => Ev.rounds (by
  have yes : ∀ b : Bool, b = true → Ev (fun k => rectolaw06_PenTexts.j0 k s nm b) true := fun b hb =>
    Ev.step (fun k => by rw [rectolaw06_PenTexts.j0]) (Ev.ite_pos hb (Ev.bind link_ev (Ev.now _)))
  unfold rectolaw06_PenTexts.f
  by_cases big : (s.size : Int) > 1500
  · exact Ev.ite_pos big (yes true rfl)
  refine Ev.ite_neg big ?_
  by_cases big2 : (nm.size : Int) > 200
  · exact yes _ (decide_eq_true big2)
  refine Ev.step (fun k => by rw [rectolaw06_PenTexts.j0]) (Ev.ite_neg (by rw [decide_eq_true_eq]; exact big2) ?_)
  refine Ev.bind (chars_ev (by omega)) (Ev.bind (rchars_ev (by omega)) (Ev.bind (raw_ev (by omega)) (Ev.bind (rraw_ev (by omega) (by omega)) (Ev.bind (note_ev (by omega)) (Ev.bind (rnote_ev (by omega)) ?_)))))
  exact Ev.ite_pos rfl (Ev.ite_pos rfl (Ev.ite_pos rfl (Ev.ite_pos rfl (Ev.ite_pos rfl (Ev.ite_pos rfl (Ev.bind link_ev (Ev.now _))))))))
end Go.Proofs.YtdoapeandigooaaDoor.P
