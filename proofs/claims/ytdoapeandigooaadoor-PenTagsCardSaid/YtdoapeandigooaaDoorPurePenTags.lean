/- PenTags, plainly: which texts are names, which are good; each tag's text, or why it has none. -/
import Derived.Test.YtdoapeandigooaaDoorPPureOpen
import Derived.Test.YtdoapeandigooaaDoorP1
import Derived.Test.YtdoapeandigooaaDoorP10
import Derived.Test.YtdoapeandigooaaDoorP9
namespace Go.Proofs.YtdoapeandigooaaDoor.P
open Go.RowKit Go.Proofs.YtdoapeandigooaaDoorW.PrintWords Go.Proofs.YtdoapeandigooaaDoorW.PrintLast

theorem long_l0 {l : List At6} (hl : l.length ≤ 40) : ∀ (d i : Nat), d + i = l.length → (∀ a ∈ l.drop i, a.f0.size ≤ 200 ∧ a.f1.size ≤ 1000) ∧ Ev (fun k => rectolaw06_long.l0 k l (l.length : Int) (i : Int)) false ∨ Ev (fun k => rectolaw06_long.l0 k l (l.length : Int) (i : Int)) true
  | 0, i, h => by
    refine Or.inl ⟨fun a ha => ?_, ?_⟩
    · rw [List.drop_eq_nil_of_le (by omega)] at ha
      cases ha
    · refine Ev.step (fun k => by rw [rectolaw06_long.l0]) ?_
      exact Ev.ite_neg (by omega) (Ev.now _)
  | d + 1, i, h => by
    have hi : i < l.length := by omega
    have hd : l.drop i = l[i] :: l.drop (i + 1) := List.drop_eq_getElem_cons hi
    have e1 : wrap64 ((i : Int) + 1) = ((i + 1 : Nat) : Int) := by rw [w64 (by omega) (by omega)]; rfl
    have st : ∀ r : Bool, Ev (fun k => if ((rd_T48 l (i : Int)).f0.size : Int) > 200 then some true else if ((rd_T48 l (i : Int)).f1.size : Int) > 1000 then some true else rectolaw06_long.l0 k l (l.length : Int) (wrap64 ((i : Int) + 1))) r → Ev (fun k => rectolaw06_long.l0 k l (l.length : Int) (i : Int)) r := fun r hr => by
      refine Ev.step (fun k => by rw [rectolaw06_long.l0]) ?_
      exact Ev.ite_pos (by omega) (Ev.ite_pos (by omega) (Ev.ite_pos (by omega) hr))
    rw [rd6 hi, e1] at st
    by_cases q0 : ((l[i]).f0.size : Int) > 200
    · exact Or.inr (st _ (Ev.ite_pos q0 (Ev.now _)))
    by_cases q1 : ((l[i]).f1.size : Int) > 1000
    · exact Or.inr (st _ (Ev.ite_neg q0 (Ev.ite_pos q1 (Ev.now _))))
    rcases long_l0 hl d (i + 1) (by omega) with ⟨ha, h'⟩ | h'
    · refine Or.inl ⟨fun a hm => ?_, st _ (Ev.ite_neg q0 (Ev.ite_neg q1 h'))⟩
      rw [hd] at hm
      rcases List.mem_cons.1 hm with rfl | hm
      · exact ⟨by omega, by omega⟩
      · exact ha a hm
    · exact Or.inr (st _ (Ev.ite_neg q0 (Ev.ite_neg q1 h')))
def closeG (name : ByteArray) : ByteArray × Int := if name8 name = true then (((⟨#[60, 47]⟩ : ByteArray) ++ name) ++ (⟨#[62]⟩ : ByteArray), 0) else (⟨#[]⟩, 4)
theorem close_f {name : ByteArray} (hn : name.size ≤ 1000) : pen_Close.f name = some (closeG name) := by
  have hz : ((⟨#[60, 47]⟩ : ByteArray) ++ name).size = 2 + name.size := by rw [ByteArray.size_append]; rfl
  unfold pen_Close.f closeG
  rw [name_f, Option.bind_some]
  by_cases q : name8 name = true
  · rw [if_pos q, if_pos q, if_pos (by omega), if_pos (by omega)]
  · rw [if_neg q, if_neg q]
theorem rclose_ev {name : ByteArray} (hn : name.size ≤ 1000) : Ev (fun k => rectoref06_Close.f k name) (closeG name) := by
  have hz : ((⟨#[60, 47]⟩ : ByteArray) ++ name).size = 2 + name.size := by rw [ByteArray.size_append]; rfl
  unfold rectoref06_Close.f closeG
  refine Ev.bind (rname_ev (by omega)) ?_
  by_cases q : name8 name = true
  · exact Ev.cast (Ev.ite_pos q (Ev.ite_pos (by omega) (Ev.ite_pos (by omega) (Ev.now _)))) (if_pos q).symm
  · exact Ev.cast (Ev.ite_neg q (Ev.now _)) (if_neg q).symm
/-- The law, of any name and any attributes. -/
theorem PenTags (name : ByteArray) (l : List At6) : ∃ k, rectolaw06_PenTags.f k name l = some true := Ev.rounds (by
  have yes : ∀ b : Bool, b = true → Ev (fun k => rectolaw06_PenTags.j0 k name l b) true := fun b hb =>
    Ev.step (fun k => by rw [rectolaw06_PenTags.j0]) (Ev.ite_pos hb (Ev.bind link_ev (Ev.now _)))
  unfold rectolaw06_PenTags.f
  have far : Ev (fun k => rectolaw06_long.f k l) true → Ev (fun k => (rectolaw06_long.f k l).bind fun t190 => (if t190 = true then (rectolaw06_PenTags.j0 k name l true) else (rectolaw06_PenTags.j0 k name l (decide ((name.size : Int) > 1000))))) true := fun h => Ev.bind h (Ev.ite_pos rfl (yes true rfl))
  have lf : l.length ≤ 40 → ∀ r, Ev (fun k => rectolaw06_long.l0 k l (l.length : Int) ((0 : Nat) : Int)) r → Ev (fun k => rectolaw06_long.f k l) r := fun hl r h => by
    unfold rectolaw06_long.f
    exact Ev.ite_neg (by omega) h
  by_cases hl : l.length ≤ 40
  case neg => exact far (by unfold rectolaw06_long.f; exact Ev.ite_pos (by omega) (Ev.now _))
  rcases long_l0 hl l.length 0 rfl with ⟨ha, h⟩ | h
  case inr => exact far (lf hl _ h)
  rw [List.drop_zero] at ha
  have hs : Small l := ⟨hl, ha⟩
  refine Ev.bind (lf hl _ h) (Ev.ite_neg (by decide) ?_)
  by_cases big : (name.size : Int) > 1000
  · exact yes _ (decide_eq_true big)
  refine Ev.step (fun k => by rw [rectolaw06_PenTags.j0]) (Ev.ite_neg (by rw [decide_eq_true_eq]; exact big) ?_)
  refine Ev.bind (open_ev hs (by omega)) (Ev.bind (ropen_ev hs (by omega)) (Ev.bind (Ev.pure fun _ => close_f (by omega)) (Ev.bind (rclose_ev (by omega)) ?_)))
  refine Ev.ite_pos rfl (Ev.ite_pos rfl (Ev.ite_pos rfl (Ev.ite_pos rfl (Ev.bind (Ev.pure fun _ => name_f name) (Ev.bind (rname_ev (by omega)) (Ev.ite_pos (by simp) ?_))))))
  exact Ev.bind (good_ev (by omega)) (Ev.bind (rgood_ev (by omega)) (Ev.ite_pos (by simp) (Ev.bind link_ev (Ev.now _)))))
end Go.Proofs.YtdoapeandigooaaDoor.P
