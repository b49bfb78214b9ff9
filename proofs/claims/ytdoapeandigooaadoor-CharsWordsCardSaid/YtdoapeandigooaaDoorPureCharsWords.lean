/- CharsWords, plainly: words have no spaces, and are the same of a text with spaces at its ends. -/
import Derived.Test.YtdoapeandigooaaDoorCPureWords
import Derived.Test.YtdoapeandigooaaDoorC11
namespace Go.Proofs.YtdoapeandigooaaDoor.C
open Go.RowKit Go.Proofs.YtdoapeandigooaaDoorW.PrintWords Go.Proofs.YtdoapeandigooaaDoorW.PrintLast

theorem all_words : ∀ l : List Int, (l.all spB) = ((wordsL l).length == 0)
  | [] => rfl
  | b :: t => by
    by_cases q : spB b = true
    · rw [List.all_cons, q, Bool.true_and, words_sp q]; exact all_words t
    · rw [List.all_cons, Bool.eq_false_iff.2 q, Bool.false_and]
      unfold wordsL
      rw [wsp_no q, if_neg (by simp)]
      simp
theorem words_one {w : List Int} (hw : w ≠ []) (h : ∀ x ∈ w, ¬ spB x = true) : wordsL w = [w] := by
  have := words_word (t := []) hw h (Or.inl rfl)
  rwa [List.append_nil] at this
theorem trim_one {w : List Int} (hw : w ≠ []) (h : ∀ x ∈ w, ¬ spB x = true) : trimL w = w := by
  obtain ⟨m, y, rfl⟩ := snoc w hw
  unfold trimL
  have hd : (m ++ [y]).dropWhile spB = m ++ [y] := by
    cases m with
    | nil => exact List.dropWhile_cons_of_neg (h y (by simp))
    | cons b t => exact List.dropWhile_cons_of_neg (h b (by simp))
  rw [hd, trimR_no (h y (by simp))]
theorem words_l {s : ByteArray} (hs : s.size ≤ 2000) : ∀ d i : Nat, d + i = (strs (wordsL (bl s))).length → Ev (fun k => rectolaw03_CharsWords.l0 k s (strs (wordsL (bl s))) (strs (wordsL (bl s))) ((strs (wordsL (bl s))).length : Int) (i : Int)) true
  | 0, i, h => by
    refine Ev.step (fun k => by rw [rectolaw03_CharsWords.l0]) (Ev.ite_neg (by omega) (Ev.ite_pos (by omega) ?_))
    have hz : ((⟨#[32]⟩ : ByteArray) ++ s).size = 1 + s.size := by rw [ByteArray.size_append]; rfl
    have hz2 : (((⟨#[32]⟩ : ByteArray) ++ s) ++ (⟨#[10]⟩ : ByteArray)).size = 1 + s.size + 1 := by rw [ByteArray.size_append, hz]; rfl
    have hb : bl (((⟨#[32]⟩ : ByteArray) ++ s) ++ (⟨#[10]⟩ : ByteArray)) = (32 :: bl s) ++ [10] := by rw [bl_append, bl_append]; rfl
    have hw := words_ev (s := ((⟨#[32]⟩ : ByteArray) ++ s) ++ (⟨#[10]⟩ : ByteArray)) (by omega)
    have e : wordsL ((32 :: bl s) ++ [10]) = wordsL (bl s) := by
      rw [List.cons_append, words_sp (by decide)]
      unfold wordsL
      rw [wsp_snoc (by decide)]
    rw [hb, e] at hw
    have hl := strs_len (s := s)
    refine Ev.ite_pos (by omega) (Ev.bind hw (Ev.bind (texts_ev (by omega)) (Ev.ite_pos rfl (Ev.bind (Ev.pure fun _ => blank_ev s) (Ev.ite_pos ?_ (Ev.bind ends_ev (Ev.now _)))))))
    rw [all_words]
    unfold strs
    rw [List.length_map]
    simp
    rw [Bool.eq_iff_iff]
    simp
  | d + 1, i, h => by
    have hi : i < (strs (wordsL (bl s))).length := by omega
    have hi' : i < (wordsL (bl s)).length := by rw [strs, List.length_map] at hi; exact hi
    have hl := strs_len (s := s)
    have hr : rdOf ByteArray.empty (strs (wordsL (bl s))) (i : Int) = strOfNums ((wordsL (bl s))[i]) := by rw [rdOf_at hi]; exact List.getElem_map ..
    obtain ⟨hne, hns⟩ := words_nosp (List.getElem_mem hi')
    have hbyt : Byt ((wordsL (bl s))[i]) := fun x hx => byt_words _ _ (List.getElem_mem hi') x hx
    have hlen : ((wordsL (bl s))[i]).length ≤ s.size := by rw [← bl_length]; exact len_words _ _ (List.getElem_mem hi')
    generalize (wordsL (bl s))[i] = w at hr hne hns hbyt hlen
    have hb : bl (strOfNums w) = w := bl_strOfNums hbyt
    have hz : (strOfNums w).size ≤ 2000 := by rw [size_nums]; omega
    have e1 : wrap64 ((i : Int) + 1) = ((i + 1 : Nat) : Int) := by rw [w64 (by omega) (by omega)]; rfl
    have hw := words_ev (s := strOfNums w) (by omega)
    rw [hb, words_one hne hns] at hw
    have ht := trim_ev (s := strOfNums w) (by omega)
    rw [hb, trim_one hne hns] at ht
    refine Ev.step (fun k => by rw [rectolaw03_CharsWords.l0]) ?_
    rw [hr, e1]
    exact Ev.ite_pos (by omega) (Ev.ite_pos (by omega) (Ev.ite_pos (by omega) (Ev.ite_neg (fun z => hne (by rw [← hb]; exact bl_nil.1 z)) (Ev.bind hw (Ev.ite_pos rfl (Ev.bind ht (Ev.ite_pos rfl (words_l hs d (i + 1) (by omega)))))))))
theorem CharsWords : rectolaw03_CharsWords.Pure := fun s hs => Ev.rounds (by
  unfold rectolaw03_CharsWords.f
  by_cases big : (s.size : Int) > 2000
  · exact Ev.ite_pos big (Ev.bind ends_ev (Ev.now _))
  exact Ev.ite_neg big (Ev.bind (words_ev (by omega)) (words_l (by omega) _ 0 rfl)))
end Go.Proofs.YtdoapeandigooaaDoor.C
