/- The document's cleaning of a text, plainly: the program's. -/
import Derived.Test.YtgopimjfoppkmaaDoorDPureAll
import Derived.Test.YtgopimjfoppkmaaDoorD12
namespace Go.Proofs.YtgopimjfoppkmaaDoor.D
open Go.RowKit Go.Proofs.YtgopimjfoppkmaaDoorW.PrintWords Go.Proofs.YtgopimjfoppkmaaDoorW.PrintLast

def firsts (l : List Int) : List Int := (all l).map fun d => d.1
theorem Ev.some {α β : Type} {x : α} {f : Nat → α → Option β} {r : β} (h : Ev (fun n => f n x) r) : Ev (fun n => (Option.some x).bind (f n)) r := h
theorem of_l {s : ByteArray} (hs : s.size ≤ 140737488355) (n : Nat) : ∀ (i : Nat) (out : List Int) (b : Bool), i ≤ s.size → s.size - i ≤ n → out.length ≤ i → Ev (fun k => rectoref02_Of.l0 k s i out b) (out ++ firsts ((bl s).drop i), b && rightL ((bl s).drop i)) := by
  induction n with
  | zero =>
    intro i out b hi hn _
    have : (bl s).drop i = [] := List.drop_eq_nil_of_le (by rw [bl_length]; omega)
    refine Ev.step (fun k => by rw [rectoref02_Of.l0]) (Ev.cast (Ev.ite_neg (by omega) (Ev.now (out, b))) ?_)
    rw [this]; simp [firsts, all_nil, rightL]
  | succ n ih =>
    intro i out b hi hn ho
    refine Ev.step (fun k => by rw [rectoref02_Of.l0]) ?_
    by_cases q : i = s.size
    · have : (bl s).drop i = [] := List.drop_eq_nil_of_le (by rw [bl_length]; omega)
      refine Ev.cast (Ev.ite_neg (by omega) (Ev.now (out, b))) ?_
      rw [this]; simp [firsts, all_nil, rightL]
    have hne : (bl s).drop i ≠ [] := by
      intro e
      have := congrArg List.length e
      rw [List.length_drop, bl_length] at this
      simp at this
      omega
    have hd := dec_len hne
    rw [List.length_drop, bl_length] at hd
    refine Ev.ite_pos (by omega) (Ev.bind (at_ev (by omega) (by omega)) (Ev.ite_pos (by omega) (Ev.some ?_)))
    rw [w64 (by omega) (by omega)]
    have go := fun b' => ih (i + (decL ((bl s).drop i)).2.1.toNat) (out ++ [(decL ((bl s).drop i)).1]) b' (by omega) (by omega) (by rw [List.length_append]; simp; omega)
    rw [show (((i + (decL ((bl s).drop i)).2.1.toNat : Nat)) : Int) = (i : Int) + (decL ((bl s).drop i)).2.1 by omega] at go
    have e1 : (bl s).drop (i + (decL ((bl s).drop i)).2.1.toNat) = ((bl s).drop i).drop (decL ((bl s).drop i)).2.1.toNat := by rw [List.drop_drop]
    rw [e1] at go
    have fin : ∀ b', (out ++ [(decL ((bl s).drop i)).1] ++ firsts (((bl s).drop i).drop (decL ((bl s).drop i)).2.1.toNat), b' && rightL (((bl s).drop i).drop (decL ((bl s).drop i)).2.1.toNat)) = (out ++ firsts ((bl s).drop i), b' && rightL (((bl s).drop i).drop (decL ((bl s).drop i)).2.1.toNat)) := fun b' => by
      unfold firsts
      rw [all_cons hne, List.map_cons, List.append_assoc]
      rfl
    rw [right_cons hne]
    cases b with
    | true =>
      refine Ev.ite_pos rfl (Ev.cast (go _) ?_)
      rw [fin]
      rfl
    | false =>
      refine Ev.ite_neg (by decide) (Ev.cast (go false) ?_)
      rw [fin]
      rfl
theorem of_ev {s : ByteArray} (hs : s.size ≤ 140737488355) : Ev (fun k => rectoref02_Of.f k s) (firsts (bl s), rightL (bl s)) := by
  have := of_l hs s.size 0 [] true (by omega) (by omega) (by simp)
  rw [List.drop_zero] at this
  exact this
end Go.Proofs.YtgopimjfoppkmaaDoor.D
