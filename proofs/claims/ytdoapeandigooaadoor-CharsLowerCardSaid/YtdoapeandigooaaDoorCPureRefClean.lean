/- The document's cleaning of a text, plainly: the program's. -/
import Derived.Test.YtdoapeandigooaaDoorCPureAll
import Derived.Test.YtdoapeandigooaaDoorC6
namespace Go.Proofs.YtdoapeandigooaaDoor.C
open Go.RowKit Go.Proofs.YtdoapeandigooaaDoorW.PrintWords Go.Proofs.YtdoapeandigooaaDoorW.PrintLast

def firsts (l : List Int) : List Int := (all l).map fun d => d.1
theorem Ev.some {α β : Type} {x : α} {f : Nat → α → Option β} {r : β} (h : Ev (fun n => f n x) r) : Ev (fun n => (Option.some x).bind (f n)) r := h
theorem of_l {s : ByteArray} (hs : s.size ≤ 140737488355) (n : Nat) : ∀ (i : Nat) (out : List Int) (b : Bool), i ≤ s.size → s.size - i ≤ n → out.length ≤ i → Ev (fun k => rectoref02_Of.l0 k s i out b) (out ++ firsts ((bl s).drop i), b && rightL ((bl s).drop i)) := by
  induction n with
  | zero =>
    intro i out b hi hn _
    have : (bl s).drop i = [] := List.drop_eq_nil_of_le (by rw [bl_length]; omega)
    refine Ev.step (fun k => by rw [rectoref02_Of.l0]) (Ev.cast (Ev.ite_neg (by omega) (Ev.now (out, b))) ?_)
    rw [this]; simp [firsts, all_nil, rightL]
  | succ n ih =>
    intro i out b hi hn ho
    refine Ev.step (fun k => by rw [rectoref02_Of.l0]) ?_
    by_cases q : i = s.size
    · have : (bl s).drop i = [] := List.drop_eq_nil_of_le (by rw [bl_length]; omega)
      refine Ev.cast (Ev.ite_neg (by omega) (Ev.now (out, b))) ?_
      rw [this]; simp [firsts, all_nil, rightL]
    have hne : (bl s).drop i ≠ [] := by
      intro e
      have := congrArg List.length e
      rw [List.length_drop, bl_length] at this
      simp at this
      omega
    have hd := dec_len hne
    rw [List.length_drop, bl_length] at hd
    refine Ev.ite_pos (by omega) (Ev.bind (at_ev (by omega) (by omega)) (Ev.ite_pos (by omega) (Ev.some ?_)))
    rw [w64 (by omega) (by omega)]
    have go := fun b' => ih (i + (decL ((bl s).drop i)).2.1.toNat) (out ++ [(decL ((bl s).drop i)).1]) b' (by omega) (by omega) (by rw [List.length_append]; simp; omega)
    rw [show (((i + (decL ((bl s).drop i)).2.1.toNat : Nat)) : Int) = (i : Int) + (decL ((bl s).drop i)).2.1 by omega] at go
    have e1 : (bl s).drop (i + (decL ((bl s).drop i)).2.1.toNat) = ((bl s).drop i).drop (decL ((bl s).drop i)).2.1.toNat := by rw [List.drop_drop]
    rw [e1] at go
    have fin : ∀ b', (out ++ [(decL ((bl s).drop i)).1] ++ firsts (((bl s).drop i).drop (decL ((bl s).drop i)).2.1.toNat), b' && rightL (((bl s).drop i).drop (decL ((bl s).drop i)).2.1.toNat)) = (out ++ firsts ((bl s).drop i), b' && rightL (((bl s).drop i).drop (decL ((bl s).drop i)).2.1.toNat)) := fun b' => by
      unfold firsts
      rw [all_cons hne, List.map_cons, List.append_assoc]
      rfl
    rw [right_cons hne]
    cases b with
    | true =>
      refine Ev.ite_pos rfl (Ev.cast (go _) ?_)
      rw [fin]
      rfl
    | false =>
      refine Ev.ite_neg (by decide) (Ev.cast (go false) ?_)
      rw [fin]
      rfl
theorem of_ev {s : ByteArray} (hs : s.size ≤ 140737488355) : Ev (fun k => rectoref02_Of.f k s) (firsts (bl s), rightL (bl s)) := by
  have := of_l hs s.size 0 [] true (by omega) (by omega) (by simp)
  rw [List.drop_zero] at this
  exact this
theorem rd_at {l : List Int} {i : Nat} (h : i < l.length) : rd l (i : Int) = l[i] := by
  unfold rd
  rw [Int.toNat_natCast, List.getD_eq_getElem?_getD, List.getElem?_eq_getElem h]
  rfl
/-- The bytes of what has come. -/
def encs (l : List Int) : ByteArray := strOfNums (l.flatMap encB)
theorem encs_snoc (l : List Int) (c : Int) : encs l ++ strOfNums (encB c) = encs (l ++ [c]) := by
  refine bytes_ext ?_
  unfold encs
  rw [List.flatMap_append, List.flatMap_singleton]
  simp [strOfNums]
theorem refClean_l {cs : List Int} (hc : ∀ c ∈ cs, isC c = true) (hl : cs.length ≤ 140737488355) (n : Nat) : ∀ i : Nat, i ≤ cs.length → cs.length - i ≤ n → Ev (fun k => rectoref02_Clean.l0 k (encs (cs.take i)) cs cs.length i) (encs cs) := by
  have big : ∀ m : List Int, (encs m).size ≤ 4 * m.length := fun m => by
    unfold encs
    rw [strOfNums_size, List.length_flatMap]
    induction m with
    | nil => simp
    | cons a m ih => have := encB_length a; simp only [List.map_cons, List.sum_cons, List.length_cons]; omega
  induction n with
  | zero =>
    intro i hi hn
    refine Ev.step (fun k => by rw [rectoref02_Clean.l0]) (Ev.cast (Ev.ite_neg (by omega) (Ev.now _)) ?_)
    rw [List.take_of_length_le (by omega)]
  | succ n ih =>
    intro i hi hn
    refine Ev.step (fun k => by rw [rectoref02_Clean.l0]) ?_
    by_cases q : i = cs.length
    · refine Ev.cast (Ev.ite_neg (by omega) (Ev.now _)) ?_
      rw [List.take_of_length_le (by omega)]
    have hlt : i < cs.length := by omega
    have hb := refBytes_ev (rd cs i)
    rw [rd_at hlt, show orC cs[i] = cs[i] by unfold orC; rw [if_pos (hc _ (List.getElem_mem hlt))]] at hb
    have b1 := big (cs.take i)
    have b2 := encB_length cs[i]
    have b3 : (strOfNums (encB cs[i])).size = (encB cs[i]).length := strOfNums_size _
    rw [List.length_take] at b1
    refine Ev.ite_pos (by omega) (Ev.ite_pos (by omega) (Ev.ite_pos (by omega) ?_))
    rw [rd_at hlt]
    refine Ev.bind hb (Ev.ite_pos (by omega) ?_)
    rw [w64 (by omega) (by omega), encs_snoc, ← List.take_succ_eq_append_getElem hlt]
    have := ih (i + 1) (by omega) (by omega)
    rw [show ((i + 1 : Nat) : Int) = (i : Int) + 1 by omega] at this
    exact this
theorem refClean_ev {s : ByteArray} (hs : s.size ≤ 140737488355) : Ev (fun k => rectoref02_Clean.f k s) (strOfNums (cleanL (bl s))) := by
  unfold rectoref02_Clean.f
  refine Ev.bind (of_ev hs) ?_
  have hal := all_length (bl s)
  rw [bl_length] at hal
  have := refClean_l (cs := firsts (bl s)) (fun c hc => by
    obtain ⟨d, hd, rfl⟩ := List.mem_map.1 hc
    exact all_isC _ (byt_bl s) d hd) (by unfold firsts; rw [List.length_map]; omega) (firsts (bl s)).length 0 (by omega) (by omega)
  refine Ev.cast this ?_
  unfold encs
  rw [clean_flat]
  rfl
end Go.Proofs.YtdoapeandigooaaDoor.C
