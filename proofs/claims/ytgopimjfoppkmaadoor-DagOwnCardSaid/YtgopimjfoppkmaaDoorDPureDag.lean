/- Which texts are good, plainly. -/
import Derived.Test.YtgopimjfoppkmaaDoorDPureAll
import Derived.Test.YtgopimjfoppkmaaDoorDGood
import Derived.Test.YtgopimjfoppkmaaDoorDLeaves
import Derived.Test.YtgopimjfoppkmaaDoorDMarks
import Derived.Test.YtgopimjfoppkmaaDoorD1
import Derived.Test.YtgopimjfoppkmaaDoorD11
import Derived.Test.YtgopimjfoppkmaaDoorD3
import Derived.Test.YtgopimjfoppkmaaDoorD4
import Derived.Test.YtgopimjfoppkmaaDoorD5
import Derived.Test.YtgopimjfoppkmaaDoorD6
import Derived.Test.YtgopimjfoppkmaaDoorD8
namespace Go.Proofs.YtgopimjfoppkmaaDoor.D
open Go.RowKit Go.Proofs.YtgopimjfoppkmaaDoorW.PrintWords Go.Proofs.YtgopimjfoppkmaaDoorW.PrintLast
set_option linter.unusedSimpArgs false

theorem all8_bl {p : UInt8 → Bool} {q : Int → Bool} (h : ∀ b : UInt8, p b = q (b.toNat : Int)) (s : ByteArray) : all8 p s = (bl s).all q := by
  unfold all8 bl
  rw [List.all_map]
  congr 1
  funext b
  exact h b
def gdI (b : Int) : Bool := decide (b ≠ 0) && decide (b ≠ 13)
theorem gdI_iff {b : Int} : gdI b = true ↔ b ≠ 0 ∧ b ≠ 13 := by unfold gdI; simp
theorem gd_bl (s : ByteArray) : all8 gd8 s = (bl s).all gdI := all8_bl (fun b => by rw [Bool.eq_iff_iff, gdI_iff]; unfold gd8; simp; omega) s
def goodB (s : ByteArray) : Bool := (bl s).all gdI && rightL (bl s)
theorem good_ev {s : ByteArray} (hs : s.size ≤ 100000) : Ev (fun k => pen_Good.f k s) (goodB s) := by
  unfold pen_Good.f goodB
  refine Ev.bind (right_ev s) ?_
  by_cases q : rightL (bl s) = true
  · refine Ev.ite_pos q (Ev.ite_pos (by omega) (Ev.cast (Ev.now _) ?_))
    rw [gd_bl, q, Bool.and_true]
  · refine Ev.ite_neg q (Ev.cast (Ev.now _) ?_)
    rw [Bool.eq_false_iff.2 q, Bool.and_false]
end Go.Proofs.YtgopimjfoppkmaaDoor.D
namespace Go.Proofs.YtgopimjfoppkmaaDoor.D
open Go.RowKit Go.Proofs.YtgopimjfoppkmaaDoorW.PrintWords Go.Proofs.YtgopimjfoppkmaaDoorW.PrintLast

abbrev G := List S43
theorem rdg {l : G} {i : Nat} (h : i < l.length) : rd_T43 l (i : Int) = l[i] := by
  unfold rd_T43
  rw [Int.toNat_natCast, List.getD_eq_getElem?_getD, List.getElem?_eq_getElem h]; rfl
/-! #### what is asked of the inputs -/
/-- A graph that is gone through. -/
structure Fit (l : G) : Prop where
  len : l.length ≤ 1010
  in_ : ∀ r ∈ l, r.f3.length ≤ 20 ∧ r.f1.size ≤ 200
theorem Fit.take {l : G} (h : Fit l) (n : Nat) : Fit (l.take n) := ⟨by have := h.len; rw [List.length_take]; omega, fun r hr => h.in_ r (List.mem_of_mem_take hr)⟩
theorem Fit.at {l : G} (h : Fit l) {i : Nat} (hi : i < l.length) : (l[i]).f3.length ≤ 20 ∧ (l[i]).f1.size ≤ 200 := h.in_ _ (List.getElem_mem hi)
theorem w1 {i : Nat} (h : i ≤ 100000) : wrap64 ((i : Int) + 1) = ((i + 1 : Nat) : Int) := by rw [w64 (by omega) (by omega)]; rfl
/-! #### lists of numbers -/
theorem cont_ev {l : List Int} (hl : l.length ≤ 100000) (a : Int) : Ev (fun k => slices_Contains_int_int.f k l a) (l.contains a) :=
  Ev.of (k := l.length + 1) (slices_Contains_int_int.mono _ _) (contains_at l (by omega) a)
theorem ints_l {a : List Int} (ha : a.length ≤ 100000) (d : Nat) : ∀ i : Nat, i + d = a.length → Ev (fun k => rectoplain_Ints.l0 k a a (a.length : Int) (i : Int)) true := by
  induction d with
  | zero =>
    intro i h
    exact Ev.step (fun k => by rw [rectoplain_Ints.l0]) (Ev.ite_neg (by omega) (Ev.cast (Ev.now _) (beq_self_eq_true _)))
  | succ d ih =>
    intro i h
    refine Ev.step (fun k => by rw [rectoplain_Ints.l0]) (Ev.ite_pos (by omega) (Ev.ite_neg (by omega) (Ev.ite_pos (by omega) (Ev.ite_pos (by omega) (Ev.ite_pos (by omega) (Ev.ite_pos rfl ?_))))))
    rw [w1 (by omega)]
    exact ih (i + 1) (by omega)
/-- A list is itself. -/
theorem ints_ev {a : List Int} (ha : a.length ≤ 100000) : Ev (fun k => rectoplain_Ints.f k a a) true := by
  unfold rectoplain_Ints.f
  exact ints_l ha a.length 0 (by omega)
/-! #### which graphs are right -/
def titleB (s : ByteArray) : Bool := decide (s.size ≠ 0) && (decide (s.size ≤ 40) && goodB s)
theorem title_ev (s : ByteArray) : Ev (fun k => dag_Title.f k s) (titleB s) := by
  unfold dag_Title.f titleB
  by_cases h0 : s.size = 0
  · refine Ev.ite_pos ((nil_iff s).2 h0) (Ev.cast (Ev.now _) ?_)
    rw [decide_eq_false (fun z => z h0), Bool.false_and]
  · refine Ev.ite_neg (fun z => h0 ((nil_iff s).1 z)) ?_
    rw [decide_eq_true h0, Bool.true_and]
    by_cases h : s.size ≤ 40
    · refine Ev.ite_pos (by omega) (Ev.bind (good_ev (by omega)) (Ev.cast (Ev.now _) ?_))
      rw [decide_eq_true h, Bool.true_and]
    · refine Ev.ite_neg (by omega) (Ev.cast (Ev.now _) ?_)
      rw [decide_eq_false h, Bool.false_and]
def knownB (g : G) (s : ByteArray) : Bool := g.any fun x => x.f1.toList == s.toList
/-- How many parents there are of a kind; -1: it is none. -/
def parN (g : G) (s : ByteArray) (c : Int) : Int := if knownB g s = true then (if c = 1 ∨ c = 3 then 1 else if c = 2 then 2 else -1) else (if c = 1 then 0 else -1)
theorem parents_ev (g : G) (i : Int) (s : ByteArray) (c : Int) (ps : List Int) : Ev (fun k => dag_parents.f k g i s c ps) (parN g s c) := by
  unfold dag_parents.f parN
  refine Ev.bind (Ev.pure fun _ => rfl : Ev (fun _ => dag_known.f g s) (knownB g s)) ?_
  have j1 : ∀ b : Bool, Ev (fun k => dag_parents.j1 k b i s c ps) (if b = true then 1 else if c = 2 then 2 else -1) := fun b => by
    refine Ev.step (fun k => by rw [dag_parents.j1]) ?_
    by_cases hb : b = true
    · exact Ev.ite_pos hb (Ev.cast (Ev.now _) (if_pos hb).symm)
    · refine Ev.ite_neg hb (Ev.cast (r := if c = 2 then 2 else -1) ?_ (if_neg hb).symm)
      by_cases h2 : c = 2
      · exact Ev.ite_pos h2 (Ev.cast (Ev.now _) (if_pos h2).symm)
      · exact Ev.ite_neg h2 (Ev.cast (Ev.now _) (if_neg h2).symm)
  by_cases h1 : c = 1
  · refine Ev.ite_pos h1 (Ev.step (fun k => by rw [dag_parents.j0]) ?_)
    cases hk : knownB g s
    · refine Ev.ite_pos rfl (Ev.cast (Ev.now _) ?_)
      rw [if_neg (by decide), if_pos h1]
    · refine Ev.ite_neg (by decide) (Ev.ite_neg (by decide) (Ev.ite_pos h1 (Ev.cast (j1 _) ?_)))
      rw [if_pos (beq_iff_eq.2 h1), if_pos rfl, if_pos (Or.inl h1)]
  · refine Ev.ite_neg h1 (Ev.step (fun k => by rw [dag_parents.j0]) (Ev.ite_neg (by decide) ?_))
    cases hk : knownB g s
    · refine Ev.ite_pos rfl (Ev.cast (Ev.now _) ?_)
      rw [if_neg (by decide), if_neg h1]
    · refine Ev.ite_neg (by decide) (Ev.ite_neg h1 (Ev.cast (j1 _) ?_))
      rw [if_pos rfl]
      by_cases h3 : c = 3
      · rw [if_pos (beq_iff_eq.2 h3), if_pos (Or.inr h3)]
      · rw [if_neg (show ¬ (c == 3) = true by simpa using h3), if_neg (show ¬ (c = 1 ∨ c = 3) by omega)]
/-- May the parent at place i stand there? -/
def parB (g : G) (s : ByteArray) (ps : List Int) (i : Nat) : Bool := decide (1 ≤ rd ps (i : Int)) && (decide (rd ps (i : Int) ≤ (g.length : Int)) && (((rd_T43 g (rd ps (i : Int) - 1)).f1.toList == s.toList) && !(ps.take i).contains (rd ps (i : Int))))
def parsB (g : G) (s : ByteArray) (ps : List Int) (i : Nat) : Bool := ((List.range ps.length).drop i).all (parB g s ps)
theorem parsB_end {g : G} {s : ByteArray} {ps : List Int} {i : Nat} (h : ps.length ≤ i) : parsB g s ps i = true := by
  unfold parsB
  rw [List.drop_eq_nil_of_le (by rw [List.length_range]; exact h)]; rfl
theorem parsB_at {g : G} {s : ByteArray} {ps : List Int} {i : Nat} (h : i < ps.length) : parsB g s ps i = (parB g s ps i && parsB g s ps (i + 1)) := by
  unfold parsB
  rw [List.drop_eq_getElem_cons (by rw [List.length_range]; exact h), List.all_cons, List.getElem_range]
def rightB (g : G) (r : S43) : Bool := decide (r.f0 = (g.length : Int) + 1) && (titleB r.f1 && (decide ((r.f3.length : Int) = parN g r.f1 r.f2) && parsB g r.f1 r.f3 0))
theorem right_l' {g : G} (hg : g.length ≤ 100000) {ps : List Int} (hp : ps.length ≤ 100) (a : Int) (s : ByteArray) (c : Int) (d : Nat) : ∀ i : Nat, i + d = ps.length → Ev (fun k => dag_right.l0 k g ps (ps.length : Int) (i : Int) a s c ps) (parsB g s ps i) := by
  induction d with
  | zero =>
    intro i h
    exact Ev.step (fun k => by rw [dag_right.l0]) (Ev.ite_neg (by omega) (Ev.cast (Ev.now _) (parsB_end (by omega)).symm))
  | succ d ih =>
    intro i h
    have hi : i < ps.length := by omega
    refine Ev.step (fun k => by rw [dag_right.l0]) (Ev.ite_pos (by omega) (Ev.ite_pos (by omega) (Ev.ite_pos (by omega) ?_)))
    rw [parsB_at hi]
    have no : parB g s ps i = false → Ev (fun _ => some false) (parB g s ps i && parsB g s ps (i + 1)) := fun q => by rw [q, Bool.false_and]; exact Ev.now _
    have hpB : parB g s ps i = (decide (1 ≤ rd ps (i : Int)) && (decide (rd ps (i : Int) ≤ (g.length : Int)) && (((rd_T43 g (rd ps (i : Int) - 1)).f1.toList == s.toList) && !(ps.take i).contains (rd ps (i : Int))))) := rfl
    by_cases q1 : rd ps (i : Int) < 1
    · exact Ev.ite_pos q1 (no (by rw [hpB, decide_eq_false (by omega), Bool.false_and]))
    refine Ev.ite_neg q1 ?_
    rw [decide_eq_true (by omega), Bool.true_and] at hpB
    by_cases q2 : rd ps (i : Int) > (g.length : Int)
    · exact Ev.ite_pos q2 (no (by rw [hpB, decide_eq_false (by omega), Bool.false_and]))
    refine Ev.ite_neg q2 ?_
    rw [decide_eq_true (by omega), Bool.true_and] at hpB
    rw [w64 (x := rd ps (i : Int) - 1) (by omega) (by omega)]
    refine Ev.ite_pos (by omega) (Ev.ite_pos (by omega) ?_)
    by_cases q3 : (rd_T43 g (rd ps (i : Int) - 1)).f1.toList = s.toList
    · rw [beq_iff_eq.2 q3, Bool.true_and] at hpB
      refine Ev.ite_pos q3 (Ev.ite_pos (by omega) ?_)
      rw [Int.toNat_natCast]
      refine Ev.bind (cont_ev (by rw [List.length_take]; omega) _) ?_
      cases q4 : (ps.take i).contains (rd ps (i : Int))
      · rw [q4] at hpB
        rw [hpB, w1 (by omega)]
        exact Ev.ite_neg (by decide) (ih (i + 1) (by omega))
      · rw [q4] at hpB
        exact Ev.ite_pos rfl (no hpB)
    · rw [beq_eq_false_iff_ne.2 q3, Bool.false_and] at hpB
      exact Ev.ite_neg q3 (no hpB)
theorem right_ev' {g : G} (hg : g.length ≤ 100000) (r : S43) (hp : r.f3.length ≤ 100) : Ev (fun k => dag_right.f k g r.f0 r.f1 r.f2 r.f3) (rightB g r) := by
  have j0 : ∀ b c : Bool, c = (!b && parsB g r.f1 r.f3 0) → Ev (fun k => dag_right.j0 k g b r.f0 r.f1 r.f2 r.f3) c := fun b c hc => by
    subst hc
    refine Ev.step (fun k => by rw [dag_right.j0]) ?_
    cases b
    · exact Ev.ite_neg (by decide) (right_l' hg hp r.f0 r.f1 r.f2 r.f3.length 0 (by omega))
    · exact Ev.ite_pos rfl (Ev.now _)
  unfold dag_right.f rightB
  rw [w1 hg]
  by_cases h1 : r.f0 = ((g.length + 1 : Nat) : Int)
  · rw [decide_eq_true (show r.f0 = (g.length : Int) + 1 by omega), Bool.true_and]
    refine Ev.ite_pos h1 (Ev.bind (title_ev _) ?_)
    cases ht : titleB r.f1
    · exact Ev.ite_neg (by decide) (j0 _ _ rfl)
    · refine Ev.ite_pos rfl (Ev.bind (parents_ev g r.f0 r.f1 r.f2 r.f3) (j0 _ _ ?_))
      rw [Bool.true_and]
      by_cases h2 : (r.f3.length : Int) = parN g r.f1 r.f2
      · rw [decide_eq_true h2, h2, bne_self_eq_false]; rfl
      · rw [decide_eq_false h2, bne_iff_ne.2 h2]; rfl
  · rw [decide_eq_false (show ¬ r.f0 = (g.length : Int) + 1 by omega), Bool.false_and]
    exact Ev.ite_neg h1 (j0 _ _ rfl)
/-! #### graphs -/
def okFrom (g : G) (i : Nat) : Bool := ((List.range g.length).drop i).all fun j => rightB (g.take j) (rd_T43 g (j : Int))
theorem okFrom_end {g : G} {i : Nat} (h : g.length ≤ i) : okFrom g i = true := by
  unfold okFrom
  rw [List.drop_eq_nil_of_le (by rw [List.length_range]; exact h)]; rfl
theorem okFrom_at {g : G} {i : Nat} (h : i < g.length) : okFrom g i = (rightB (g.take i) g[i] && okFrom g (i + 1)) := by
  unfold okFrom
  rw [List.drop_eq_getElem_cons (by rw [List.length_range]; exact h), List.all_cons, List.getElem_range, rdg h]
/-- What Check answers. -/
def checkN (g : G) : Int := if g.length > 1000 then 2 else if okFrom g 0 = true then 0 else 4
/-- What Check's round needs: not too many, and not too many parents. -/
structure FitP (l : G) : Prop where
  len : l.length ≤ 1010
  par : ∀ r ∈ l, r.f3.length ≤ 20
theorem Fit.toP {l : G} (h : Fit l) : FitP l := ⟨h.len, fun r hr => (h.in_ r hr).1⟩
theorem check_l {g : G} (hg : FitP g) (d : Nat) : ∀ i : Nat, i + d = g.length → Ev (fun k => dag_Check.l0 k g g (g.length : Int) (i : Int)) (if okFrom g i = true then 0 else 4) := by
  have hl := hg.len
  induction d with
  | zero =>
    intro i h
    exact Ev.step (fun k => by rw [dag_Check.l0]) (Ev.ite_neg (by omega) (Ev.cast (Ev.now _) (if_pos (okFrom_end (by omega))).symm))
  | succ d ih =>
    intro i h
    have hi : i < g.length := by omega
    refine Ev.step (fun k => by rw [dag_Check.l0]) (Ev.ite_pos (by omega) (Ev.ite_pos (by omega) (Ev.ite_pos (by omega) (Ev.ite_pos (by omega) ?_))))
    rw [rdg hi, Int.toNat_natCast, w1 (by omega), okFrom_at hi]
    refine Ev.bind (right_ev' (by rw [List.length_take]; omega) g[i] (by have := hg.par _ (List.getElem_mem hi); omega)) ?_
    cases hr : rightB (g.take i) g[i]
    · exact Ev.ite_neg (by decide) (Ev.now _)
    · refine Ev.ite_pos rfl ?_
      rw [Bool.true_and]
      exact ih (i + 1) (by omega)
theorem check_evP {g : G} (hg : FitP g) : Ev (fun k => dag_Check.f k g) (checkN g) := by
  unfold dag_Check.f checkN
  by_cases h : g.length > 1000
  · exact Ev.ite_pos (by omega) (Ev.cast (Ev.now _) (if_pos h).symm)
  · exact Ev.ite_neg (by omega) (Ev.cast (check_l hg g.length 0 (by omega)) (if_neg h).symm)
theorem check_ev {g : G} (hg : Fit g) : Ev (fun k => dag_Check.f k g) (checkN g) := check_evP hg.toP
end Go.Proofs.YtgopimjfoppkmaaDoor.D
namespace Go.Proofs.YtgopimjfoppkmaaDoor.D
open Go.RowKit Go.Proofs.YtgopimjfoppkmaaDoorW.PrintWords Go.Proofs.YtgopimjfoppkmaaDoorW.PrintLast

theorem four_ev : Ev (fun k => rectolaw31_four.f k) true := Ev.of (k := 64) rectolaw31_four.mono (by kernel_rfl)
theorem long_l {g : G} (hg : g.length ≤ 1010) (d : Nat) : ∀ i : Nat, i + d = g.length → ((∀ r ∈ g.drop i, r.f3.length ≤ 20 ∧ r.f1.size ≤ 200) ∧ Ev (fun k => rectolaw31_long.l0 k g (g.length : Int) (i : Int)) false) ∨ Ev (fun k => rectolaw31_long.l0 k g (g.length : Int) (i : Int)) true := by
  induction d with
  | zero =>
    intro i h
    refine Or.inl ⟨fun r hr => ?_, Ev.step (fun k => by rw [rectolaw31_long.l0]) (Ev.ite_neg (by omega) (Ev.now _))⟩
    rw [List.drop_eq_nil_of_le (by omega)] at hr
    cases hr
  | succ d ih =>
    intro i h
    have hi : i < g.length := by omega
    have st : ∀ r : Bool, Ev (fun k => if (((g[i]).f3).length : Int) > 20 then some true else if ((g[i]).f1.size : Int) > 200 then some true else rectolaw31_long.l0 k g (g.length : Int) ((i + 1 : Nat) : Int)) r → Ev (fun k => rectolaw31_long.l0 k g (g.length : Int) (i : Int)) r := fun r hr => by
      refine Ev.step (fun k => by rw [rectolaw31_long.l0]) (Ev.ite_pos (by omega) (Ev.ite_pos (by omega) (Ev.ite_pos (by omega) ?_)))
      rw [rdg hi, w1 (by omega)]
      exact hr
    by_cases q0 : (((g[i]).f3).length : Int) > 20
    · exact Or.inr (st _ (Ev.ite_pos q0 (Ev.now _)))
    by_cases q1 : ((g[i]).f1.size : Int) > 200
    · exact Or.inr (st _ (Ev.ite_neg q0 (Ev.ite_pos q1 (Ev.now _))))
    rcases ih (i + 1) (by omega) with ⟨ha, h'⟩ | h'
    · refine Or.inl ⟨fun r hr => ?_, st _ (Ev.ite_neg q0 (Ev.ite_neg q1 h'))⟩
      rw [List.drop_eq_getElem_cons hi] at hr
      rcases List.mem_cons.1 hr with rfl | hr
      · exact ⟨by omega, by omega⟩
      · exact ha r hr
    · exact Or.inr (st _ (Ev.ite_neg q0 (Ev.ite_neg q1 h')))
theorem long_or (g : G) : (Fit g ∧ (g.length ≤ 40 ∨ 1000 < g.length) ∧ Ev (fun k => rectolaw31_long.f k g) false) ∨ Ev (fun k => rectolaw31_long.f k g) true := by
  have j0 : ∀ b r : Bool, (b = true → r = true) → (b = false → Ev (fun k => rectolaw31_long.l0 k g (g.length : Int) 0) r) → Ev (fun k => rectolaw31_long.j0 k g b) r := fun b r h1 h2 => by
    refine Ev.step (fun k => by rw [rectolaw31_long.j0]) ?_
    cases b
    · exact Ev.ite_neg (by decide) (h2 rfl)
    · rw [h1 rfl]; exact Ev.ite_pos rfl (Ev.now _)
  unfold rectolaw31_long.f
  by_cases a : (g.length : Int) > 40 ∧ (g.length : Int) ≤ 1000
  · exact Or.inr (Ev.ite_pos a.1 (Ev.ite_pos a.2 (j0 _ _ (fun _ => rfl) (fun h => by cases h))))
  have onw : ∀ r, Ev (fun k => rectolaw31_long.j0 k g (decide ((g.length : Int) > 1010))) r → Ev (fun k => if (g.length : Int) > 40 then (if (g.length : Int) ≤ 1000 then rectolaw31_long.j0 k g true else rectolaw31_long.j0 k g (decide ((g.length : Int) > 1010))) else rectolaw31_long.j0 k g (decide ((g.length : Int) > 1010))) r := fun r hr => by
    by_cases b : (g.length : Int) > 40
    · exact Ev.ite_pos b (Ev.ite_neg (by omega) hr)
    · exact Ev.ite_neg b hr
  by_cases c : (g.length : Int) > 1010
  · exact Or.inr (onw _ (j0 _ _ (fun _ => rfl) (fun h => absurd h (by rw [decide_eq_true c]; decide))))
  rcases long_l (g := g) (by omega) g.length 0 (by omega) with ⟨ha, h⟩ | h
  · rw [List.drop_zero] at ha
    exact Or.inl ⟨⟨by omega, ha⟩, by omega, onw _ (j0 _ _ (fun z => absurd z (by rw [decide_eq_false c]; decide)) (fun _ => h))⟩
  · exact Or.inr (onw _ (j0 _ _ (fun z => absurd z (by rw [decide_eq_false c]; decide)) (fun _ => h)))
/-- In a right graph each revision has its place's number. -/
theorem ok_all {g : G} (h : okFrom g 0 = true) {i : Nat} (hi : i < g.length) : rightB (g.take i) g[i] = true := by
  unfold okFrom at h
  have := List.all_eq_true.1 h i (by rw [List.drop_zero, List.mem_range]; exact hi)
  rwa [rdg hi] at this
theorem ok_id {g : G} (h : okFrom g 0 = true) {i : Nat} (hi : i < g.length) : (g[i]).f0 = ((i + 1 : Nat) : Int) := by
  have := ok_all h hi
  unfold rightB at this
  rw [Bool.and_eq_true] at this
  have e := of_decide_eq_true this.1
  rw [List.length_take] at e
  omega
theorem check0 {g : G} (h : checkN g = 0) : g.length ≤ 1000 ∧ okFrom g 0 = true := by
  unfold checkN at h
  by_cases c : g.length > 1000
  · rw [if_pos c] at h; cases h
  · rw [if_neg c] at h
    by_cases o : okFrom g 0 = true
    · exact ⟨by omega, o⟩
    · rw [if_neg o] at h; cases h
end Go.Proofs.YtgopimjfoppkmaaDoor.D
