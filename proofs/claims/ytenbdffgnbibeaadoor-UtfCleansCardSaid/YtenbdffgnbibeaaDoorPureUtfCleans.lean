/- UtfCleans, plainly: any text, cleaned; whether it is right; how many characters it has, and which. -/
import Derived.Test.YtenbdffgnbibeaaDoorUPureAll
import Derived.Test.YtenbdffgnbibeaaDoorU4
import Derived.Test.YtenbdffgnbibeaaDoorU5
namespace Go.Proofs.YtenbdffgnbibeaaDoor.U
open Go.RowKit Go.Proofs.YtenbdffgnbibeaaDoorW.PrintWords Go.Proofs.YtenbdffgnbibeaaDoorW.PrintLast

def firsts (l : List Int) : List Int := (all l).map fun d => d.1
theorem Ev.some {α β : Type} {x : α} {f : Nat → α → Option β} {r : β} (h : Ev (fun n => f n x) r) : Ev (fun n => (Option.some x).bind (f n)) r := h
theorem of_l {s : ByteArray} (hs : s.size ≤ 140737488355) (n : Nat) : ∀ (i : Nat) (out : List Int) (b : Bool), i ≤ s.size → s.size - i ≤ n → out.length ≤ i → Ev (fun k => rectoref02_Of.l0 k s i out b) (out ++ firsts ((bl s).drop i), b && rightL ((bl s).drop i)) := by
  induction n with
  | zero =>
    intro i out b hi hn _
    have : (bl s).drop i = [] := List.drop_eq_nil_of_le (by rw [bl_length]; omega)
    refine Ev.step (fun k => by rw [rectoref02_Of.l0]) (Ev.cast (Ev.ite_neg (by omega) (Ev.now (out, b))) ?_)
    rw [this]; simp [firsts, all_nil, rightL]
  | succ n ih =>
    intro i out b hi hn ho
    refine Ev.step (fun k => by rw [rectoref02_Of.l0]) ?_
    by_cases q : i = s.size
    · have : (bl s).drop i = [] := List.drop_eq_nil_of_le (by rw [bl_length]; omega)
      refine Ev.cast (Ev.ite_neg (by omega) (Ev.now (out, b))) ?_
      rw [this]; simp [firsts, all_nil, rightL]
    have hne : (bl s).drop i ≠ [] := by
      intro e
      have := congrArg List.length e
      rw [List.length_drop, bl_length] at this
      simp at this
      omega
    have hd := dec_len hne
    rw [List.length_drop, bl_length] at hd
    refine Ev.ite_pos (by omega) (Ev.bind (at_ev (by omega) (by omega)) (Ev.ite_pos (by omega) (Ev.some ?_)))
    rw [w64 (by omega) (by omega)]
    have go := fun b' => ih (i + (decL ((bl s).drop i)).2.1.toNat) (out ++ [(decL ((bl s).drop i)).1]) b' (by omega) (by omega) (by rw [List.length_append]; simp; omega)
    rw [show (((i + (decL ((bl s).drop i)).2.1.toNat : Nat)) : Int) = (i : Int) + (decL ((bl s).drop i)).2.1 by omega] at go
    have e1 : (bl s).drop (i + (decL ((bl s).drop i)).2.1.toNat) = ((bl s).drop i).drop (decL ((bl s).drop i)).2.1.toNat := by rw [List.drop_drop]
    rw [e1] at go
    have fin : ∀ b', (out ++ [(decL ((bl s).drop i)).1] ++ firsts (((bl s).drop i).drop (decL ((bl s).drop i)).2.1.toNat), b' && rightL (((bl s).drop i).drop (decL ((bl s).drop i)).2.1.toNat)) = (out ++ firsts ((bl s).drop i), b' && rightL (((bl s).drop i).drop (decL ((bl s).drop i)).2.1.toNat)) := fun b' => by
      unfold firsts
      rw [all_cons hne, List.map_cons, List.append_assoc]
      rfl
    rw [right_cons hne]
    cases b with
    | true =>
      refine Ev.ite_pos rfl (Ev.cast (go _) ?_)
      rw [fin]
      rfl
    | false =>
      refine Ev.ite_neg (by decide) (Ev.cast (go false) ?_)
      rw [fin]
      rfl
theorem of_ev {s : ByteArray} (hs : s.size ≤ 140737488355) : Ev (fun k => rectoref02_Of.f k s) (firsts (bl s), rightL (bl s)) := by
  have := of_l hs s.size 0 [] true (by omega) (by omega) (by simp)
  rw [List.drop_zero] at this
  exact this
theorem rd_at {l : List Int} {i : Nat} (h : i < l.length) : rd l (i : Int) = l[i] := by
  unfold rd
  rw [Int.toNat_natCast, List.getD_eq_getElem?_getD, List.getElem?_eq_getElem h]
  rfl
/-- The bytes of what has come. -/
def encs (l : List Int) : ByteArray := strOfNums (l.flatMap encB)
theorem encs_snoc (l : List Int) (c : Int) : encs l ++ strOfNums (encB c) = encs (l ++ [c]) := by
  refine bytes_ext ?_
  unfold encs
  rw [List.flatMap_append, List.flatMap_singleton]
  simp [strOfNums]
theorem refClean_l {cs : List Int} (hc : ∀ c ∈ cs, isC c = true) (hl : cs.length ≤ 140737488355) (n : Nat) : ∀ i : Nat, i ≤ cs.length → cs.length - i ≤ n → Ev (fun k => rectoref02_Clean.l0 k (encs (cs.take i)) cs cs.length i) (encs cs) := by
  have big : ∀ m : List Int, (encs m).size ≤ 4 * m.length := fun m => by
    unfold encs
    rw [strOfNums_size, List.length_flatMap]
    induction m with
    | nil => simp
    | cons a m ih => have := encB_length a; simp only [List.map_cons, List.sum_cons, List.length_cons]; omega
  induction n with
  | zero =>
    intro i hi hn
    refine Ev.step (fun k => by rw [rectoref02_Clean.l0]) (Ev.cast (Ev.ite_neg (by omega) (Ev.now _)) ?_)
    rw [List.take_of_length_le (by omega)]
  | succ n ih =>
    intro i hi hn
    refine Ev.step (fun k => by rw [rectoref02_Clean.l0]) ?_
    by_cases q : i = cs.length
    · refine Ev.cast (Ev.ite_neg (by omega) (Ev.now _)) ?_
      rw [List.take_of_length_le (by omega)]
    have hlt : i < cs.length := by omega
    have hb := refBytes_ev (rd cs i)
    rw [rd_at hlt, show orC cs[i] = cs[i] by unfold orC; rw [if_pos (hc _ (List.getElem_mem hlt))]] at hb
    have b1 := big (cs.take i)
    have b2 := encB_length cs[i]
    have b3 : (strOfNums (encB cs[i])).size = (encB cs[i]).length := strOfNums_size _
    rw [List.length_take] at b1
    refine Ev.ite_pos (by omega) (Ev.ite_pos (by omega) (Ev.ite_pos (by omega) ?_))
    rw [rd_at hlt]
    refine Ev.bind hb (Ev.ite_pos (by omega) ?_)
    rw [w64 (by omega) (by omega), encs_snoc, ← List.take_succ_eq_append_getElem hlt]
    have := ih (i + 1) (by omega) (by omega)
    rw [show ((i + 1 : Nat) : Int) = (i : Int) + 1 by omega] at this
    exact this
theorem refClean_ev {s : ByteArray} (hs : s.size ≤ 140737488355) : Ev (fun k => rectoref02_Clean.f k s) (strOfNums (cleanL (bl s))) := by
  unfold rectoref02_Clean.f
  refine Ev.bind (of_ev hs) ?_
  have hal := all_length (bl s)
  rw [bl_length] at hal
  have := refClean_l (cs := firsts (bl s)) (fun c hc => by
    obtain ⟨d, hd, rfl⟩ := List.mem_map.1 hc
    exact all_isC _ (byt_bl s) d hd) (by unfold firsts; rw [List.length_map]; omega) (firsts (bl s)).length 0 (by omega) (by omega)
  refine Ev.cast this ?_
  unfold encs
  rw [clean_flat]
  rfl
theorem at_l (n : Nat) : ∀ (s : ByteArray) (m : Nat), s.size ≤ n → (m : Int) ≤ 9223372036854775807 → Ev (fun k => utf_At.l0 k s m) (if m < (firsts (bl s)).length then ((firsts (bl s)).getD m 0, 0) else (0, 6)) := by
  induction n with
  | zero =>
    intro s m hs _
    have h : bl s = [] := List.length_eq_zero_iff.1 (by rw [bl_length]; omega)
    refine Ev.step (fun k => by rw [utf_At.l0]) (Ev.cast (Ev.ite_pos (bl_nil.2 h) (Ev.now (0, 6))) ?_)
    rw [h, if_neg (by simp [firsts, all_nil])]
  | succ n ih =>
    intro s m hs hm
    refine Ev.step (fun k => by rw [utf_At.l0]) ?_
    by_cases h : bl s = []
    · refine Ev.cast (Ev.ite_pos (bl_nil.2 h) (Ev.now (0, 6))) ?_
      rw [h, if_neg (by simp [firsts, all_nil])]
    have hd := dec_len h
    have hc := cut_ok h
    have ef : firsts (bl s) = (decL (bl s)).1 :: firsts ((bl s).drop (decL (bl s)).2.1.toNat) := by unfold firsts; rw [all_cons h]; rfl
    refine Ev.ite_neg (fun e => h (bl_nil.1 e)) (Ev.bind (first_ev s h) ?_)
    rw [ef]
    rcases m with _ | m
    · refine Ev.cast (Ev.ite_pos rfl (Ev.now _)) ?_
      rw [if_pos (by simp)]
      rfl
    · refine Ev.ite_neg (by omega) (Ev.ite_pos hc.1 (Ev.ite_pos hc.2 ?_))
      rw [w64 (by omega) (by omega)]
      have := ih (s.extract ((decL (bl s)).2.1 : Int).toNat s.size) m (by rw [← bl_length, cut_bl, List.length_drop, bl_length]; rw [bl_length] at hd; omega) (by omega)
      rw [cut_bl] at this
      rw [show ((m + 1 : Nat) : Int) - 1 = (m : Int) by omega]
      refine Ev.cast this ?_
      by_cases q : m < (firsts ((bl s).drop (decL (bl s)).2.1.toNat)).length
      · rw [if_pos q, if_pos (by rw [List.length_cons]; omega)]; rfl
      · rw [if_neg q, if_neg (by rw [List.length_cons]; omega)]
def nth (l : List Int) (n : Int) : Int × Int := if n < 0 then (0, 1) else if n.toNat < (firsts l).length then ((firsts l).getD n.toNat 0, 0) else (0, 6)
theorem at_prog (s : ByteArray) {n : Int} (hn : n ≤ 9223372036854775807) : Ev (fun k => utf_At.f k s n) (nth (bl s) n) := by
  unfold utf_At.f nth
  by_cases h : n < 0
  · exact Ev.cast (Ev.ite_pos h (Ev.now _)) (if_pos h).symm
  · have := at_l s.size s n.toNat (Nat.le_refl _) (by omega)
    rw [show ((n.toNat : Nat) : Int) = n by omega] at this
    exact Ev.cast (Ev.ite_neg h this) (if_neg h).symm
theorem nth_ref {s : ByteArray} (hs : s.size ≤ 140737488355) (n : Int) : Ev (fun k => rectoref02_Nth.f k s n) (nth (bl s) n) := by
  unfold rectoref02_Nth.f nth
  by_cases h : n < 0
  · exact Ev.cast (Ev.ite_pos h (Ev.now _)) (if_pos h).symm
  refine Ev.cast ?_ (if_neg h).symm
  refine Ev.ite_neg h (Ev.bind (of_ev hs) ?_)
  dsimp only
  by_cases q : n.toNat < (firsts (bl s)).length
  · refine Ev.cast (Ev.ite_neg (by omega) (Ev.ite_pos (by omega) (Ev.ite_pos (by omega) (Ev.now _)))) ?_
    rw [if_pos q]
    rfl
  · exact Ev.cast (Ev.ite_pos (by omega) (Ev.now (0, 6))) (if_neg q).symm
theorem UtfCleans : rectolaw02_UtfCleans.Pure := fun s n _ hn => Ev.rounds (by
  unfold rectolaw02_UtfCleans.f
  by_cases g : (s.size : Int) > 3000
  · exact Ev.ite_pos g (Ev.bind euro_ev (Ev.now _))
  have w := wf_i64 hn
  have hs : s.size ≤ 3000 := by omega
  refine Ev.ite_neg g (Ev.bind (at_prog s w.2) (Ev.bind (nth_ref (s := s) (by omega) n) ?_))
  refine Ev.bind (of_ev (s := s) (by omega)) (Ev.bind (clean_ev (s := s) (by omega)) (Ev.bind (refClean_ev (s := s) (by omega)) (Ev.ite_pos rfl ?_)))
  refine Ev.bind (right_ev s) (Ev.ite_pos (beq_self_eq_true _) (Ev.bind (count_ev (s := s) (by omega)) (Ev.ite_pos ?_ (Ev.ite_pos rfl (Ev.ite_pos rfl (Ev.bind euro_ev (Ev.now _)))))))
  show _ = ((firsts (bl s)).length : Int)
  unfold firsts
  rw [List.length_map])
end Go.Proofs.YtenbdffgnbibeaaDoor.U
