/- DagOwn, plainly: a revision that is added: added twice it is the same. -/
import Derived.Test.YtgopimjfoppkmaaDoorDPureDag
import Derived.Test.YtgopimjfoppkmaaDoorD10
import Derived.Test.YtgopimjfoppkmaaDoorD12
namespace Go.Proofs.YtgopimjfoppkmaaDoor.D
open Go.RowKit Go.Proofs.YtgopimjfoppkmaaDoorW.PrintWords Go.Proofs.YtgopimjfoppkmaaDoorW.PrintLast

theorem clone_rev {g : G} (h : g.length ≤ 2000) : dag_Rev.f g = some g := by
  unfold dag_Rev.f
  rw [Option.bind_some, if_pos (by simp; omega), List.nil_append]
theorem clone_int {l : List Int} (h : l.length ≤ 2000) : slices_Clone_int_int.f l = some l := by
  unfold slices_Clone_int_int.f
  rw [Option.bind_some, if_pos (by simp; omega), List.nil_append]
theorem copied_l {g : G} (hg : FitP g) (d : Nat) : ∀ i : Nat, i + d = g.length → Ev (fun k => dag_copied.l0 k g (g.length : Int) (i : Int)) g := by
  have hl := hg.len
  induction d with
  | zero => exact fun i h => Ev.step (fun k => by rw [dag_copied.l0]) (Ev.ite_neg (by omega) (Ev.now _))
  | succ d ih =>
    intro i h
    have hi : i < g.length := by omega
    refine Ev.step (fun k => by rw [dag_copied.l0]) (Ev.ite_pos (by omega) (Ev.ite_pos (by omega) (Ev.ite_pos (by omega) ?_)))
    rw [rdg hi, Int.toNat_natCast, w1 (by omega)]
    refine Ev.bind (Ev.pure fun _ => clone_int (by have := hg.par _ (List.getElem_mem hi); omega)) ?_
    rw [show g.set i ⟨(g[i]).f0, (g[i]).f1, (g[i]).f2, (g[i]).f3⟩ = g from List.set_getElem_self ..]
    exact ih (i + 1) (by omega)
theorem copied_ev {g : G} (hg : FitP g) : Ev (fun k => dag_copied.f k g) g := by
  unfold dag_copied.f
  refine Ev.bind (Ev.pure fun _ => clone_rev (by have := hg.len; omega)) ?_
  exact copied_l hg g.length 0 (by omega)
/-- The graph with the revision behind it. -/
def more (g : G) (s : ByteArray) (c : Int) (ps : List Int) : G := g ++ [⟨(g.length : Int) + 1, s, c, ps⟩]
def addN (g : G) (s : ByteArray) (c : Int) (ps : List Int) : G × Int := if g.length ≥ 1000 then ([], 5) else if checkN (more g s c ps) = 0 then (more g s c ps, 0) else ([], 4)
theorem add_ev {g : G} (hg : Fit g) (i : Int) (s : ByteArray) (c : Int) {ps : List Int} (hp : ps.length ≤ 20) : Ev (fun k => dag_Add.f k g i s c ps) (addN g s c ps) := by
  have hl := hg.len
  unfold dag_Add.f addN
  by_cases h : g.length ≥ 1000
  · exact Ev.ite_pos (by omega) (Ev.cast (Ev.now _) (if_pos h).symm)
  rw [if_neg h]
  have hm : FitP (more g s c ps) := ⟨by unfold more; rw [List.length_append]; show _ + 1 ≤ _; omega, fun r hr => by
    unfold more at hr
    rcases List.mem_append.1 hr with hr | hr
    · exact (hg.in_ r hr).1
    · simp only [List.mem_singleton] at hr
      subst hr
      exact hp⟩
  refine Ev.ite_neg (by omega) (Ev.bind (Ev.pure fun _ => clone_rev (by omega)) ?_)
  rw [w64 (x := (g.length : Int) + 1) (by omega) (by omega)]
  refine Ev.congr (fun k => Option.bind_some ..) (Ev.ite_pos (by show _ + 1 < _; omega) ?_)
  refine Ev.bind (copied_ev hm) (Ev.bind (check_evP hm) ?_)
  by_cases q : checkN (more g s c ps) = 0
  · exact Ev.ite_pos q (Ev.cast (Ev.now _) (if_pos q).symm)
  · exact Ev.ite_neg q (Ev.cast (Ev.now _) (if_neg q).symm)
/-- The law, of any graph and any revision. -/
theorem DagOwn (g : G) (i : Int) (s : ByteArray) (c : Int) (ps : List Int) : ∃ k, rectolaw31_DagOwn.f k g i s c ps = some true := Ev.rounds (by
  have four : Ev (fun k => (rectolaw31_four.f k).bind fun t354 => some t354) true := Ev.bind four_ev (Ev.now _)
  have yes : ∀ b : Bool, b = true → Ev (fun k => rectolaw31_DagOwn.j0 k g b i s c ps) true := fun b hb => by
    refine Ev.step (fun k => by rw [rectolaw31_DagOwn.j0]) ?_
    exact Ev.ite_pos hb four
  unfold rectolaw31_DagOwn.f
  rcases long_or g with ⟨hg, _, hlg⟩ | h
  case inr => exact Ev.bind h (Ev.ite_pos rfl (yes true rfl))
  have hl := hg.len
  refine Ev.bind hlg (Ev.ite_neg (by decide) ?_)
  by_cases hp : (ps.length : Int) > 20
  · exact yes _ (decide_eq_true hp)
  refine Ev.step (fun k => by rw [rectolaw31_DagOwn.j0]) (Ev.ite_neg (by rw [decide_eq_true_eq]; exact hp) ?_)
  refine Ev.bind (add_ev hg i s c (by omega)) (Ev.bind (add_ev hg i s c (by omega)) (Ev.ite_pos rfl ?_))
  unfold addN
  by_cases h : g.length ≥ 1000
  · rw [if_pos h]
    exact Ev.ite_neg (by decide) four
  rw [if_neg h]
  by_cases q : checkN (more g s c ps) = 0
  · rw [if_pos q]
    have hm : FitP (more g s c ps) := ⟨by unfold more; rw [List.length_append]; show _ + 1 ≤ _; omega, fun r hr => by
      unfold more at hr
      rcases List.mem_append.1 hr with hr | hr
      · exact (hg.in_ r hr).1
      · simp only [List.mem_singleton] at hr
        subst hr
        show ps.length ≤ 20
        omega⟩
    have hml : (more g s c ps).length = g.length + 1 := by unfold more; rw [List.length_append]; rfl
    have hat : (rd_T43 (more g s c ps) (g.length : Int)).f1 = s := by
      rw [rdg (by rw [hml]; omega)]
      unfold more
      rw [List.getElem_append_right (Nat.le_refl _)]
      simp
    refine Ev.ite_pos rfl (Ev.ite_pos ?_ (Ev.ite_pos (by omega) (Ev.ite_pos (by show (g.length : Int) < ((more g s c ps).length : Int); omega) (Ev.ite_pos ?_ (Ev.bind (check_evP hm) (Ev.ite_pos q four))))))
    · show ((more g s c ps).length : Int) = _
      rw [hml, w1 (by omega)]
    · show (rd_T43 (more g s c ps) (g.length : Int)).f1.toList = s.toList
      rw [hat]
  · rw [if_neg q]
    exact Ev.ite_neg (by decide) four)
end Go.Proofs.YtgopimjfoppkmaaDoor.D
