/- Tags, plainly: what is read as it is: whether a text has the tag that ends it. -/
import Derived.Test.YtdoapeandigooaaDoorPPurePen
import Derived.Test.YtdoapeandigooaaDoorP11
import Derived.Test.YtdoapeandigooaaDoorP7
import Derived.Test.YtdoapeandigooaaDoorP9
namespace Go.Proofs.YtdoapeandigooaaDoor.P
open Go.RowKit Go.Proofs.YtdoapeandigooaaDoorW.PrintWords Go.Proofs.YtdoapeandigooaaDoorW.PrintLast
set_option linter.unusedSimpArgs false

/-- Does a name end here? -/
def stopI : List Int → Bool
  | [] => false
  | c :: _ => spB c || decide (c = 47) || decide (c = 62)
/-- Does a tag stand anywhere whose name ends? -/
def endL (P : List Int) : List Int → Bool
  | [] => false
  | b :: t => (P.isPrefixOf (b :: t) && stopI ((b :: t).drop P.length)) || endL P t
theorem endL_skip {Q : List Int} : ∀ (R r : List Int), (∀ x ∈ R, x ≠ 60) → endL (60 :: Q) (R ++ r) = endL (60 :: Q) r
  | [], r, _ => rfl
  | b :: R, r, h => by
    have hb := h b (List.mem_cons_self ..)
    rw [List.cons_append, endL, endL_skip R r fun x hx => h x (List.mem_cons_of_mem _ hx)]
    have : (60 :: Q).isPrefixOf (b :: (R ++ r)) = false := by
      show ((60 : Int) == b && _) = false
      rw [beq_eq_false_iff_ne.2 (Ne.symm hb), Bool.false_and]
    rw [this, Bool.false_and, Bool.false_or]
section
variable {Q8 : List UInt8}
theorem endL_miss (P : List UInt8) : ∀ l : List UInt8, Lib.index l P = -1 → endL (i8 P) (i8 l) = false
  | [], _ => rfl
  | b :: t, h => by
    by_cases q : P.isPrefixOf (b :: t) = true
    · rw [index_pre q] at h; omega
    · have q' := Bool.eq_false_iff.2 q
      rw [index_miss q'] at h
      have := Lib.index_ge t P
      split at h
      · rename_i z
        show ((i8 P).isPrefixOf (i8 (b :: t)) && _ || endL (i8 P) (i8 t)) = false
        rw [pre_i8, q', Bool.false_and, Bool.false_or]
        exact endL_miss P t (beq_iff_eq.1 z)
      · omega
theorem endL_hit (hQ : ∀ x ∈ i8 Q8, x ≠ 60) : ∀ (l : List UInt8) (i : Nat), Lib.index l (60 :: Q8) = i → endL (i8 (60 :: Q8)) (i8 l) = (stopI (i8 (l.drop (i + (60 :: Q8).length))) || endL (i8 (60 :: Q8)) (i8 (l.drop (i + (60 :: Q8).length))))
  | [], i, h => by rw [index_nil (by simp)] at h; omega
  | b :: t, i, h => by
    by_cases q : (60 :: Q8).isPrefixOf (b :: t) = true
    · rw [index_pre q] at h
      obtain rfl : i = 0 := by omega
      rw [Nat.zero_add]
      have hp := q
      rw [List.isPrefixOf_iff_prefix] at hp
      obtain ⟨r, hr⟩ := hp
      have ht : t = Q8 ++ r := (List.cons.inj hr).2.symm
      have hd : (b :: t).drop (60 :: Q8).length = r := by rw [← hr, List.drop_left]
      have e1 : endL (i8 (60 :: Q8)) (i8 t) = endL (i8 (60 :: Q8)) (i8 r) := by
        rw [ht]
        show endL (60 :: i8 Q8) (i8 (Q8 ++ r)) = _
        rw [show i8 (Q8 ++ r) = i8 Q8 ++ i8 r from List.map_append, endL_skip _ _ hQ]; rfl
      have e2 : (i8 (b :: t)).drop (i8 (60 :: Q8)).length = i8 r := by
        rw [show (i8 (60 :: Q8)).length = (60 :: Q8).length from List.length_map .., show i8 (b :: t) = (b :: t).map _ from rfl, ← List.map_drop, hd]
      show ((i8 (60 :: Q8)).isPrefixOf (i8 (b :: t)) && stopI ((i8 (b :: t)).drop (i8 (60 :: Q8)).length) || endL (i8 (60 :: Q8)) (i8 t)) = _
      rw [pre_i8, q, Bool.true_and, e1, e2, hd]
    · have q' := Bool.eq_false_iff.2 q
      rw [index_miss q'] at h
      have := Lib.index_ge t (60 :: Q8)
      split at h
      · omega
      · rename_i z
        rw [beq_iff_eq] at z
        obtain ⟨j, rfl⟩ : ∃ j, i = j + 1 := ⟨i - 1, by omega⟩
        show ((i8 (60 :: Q8)).isPrefixOf (i8 (b :: t)) && _ || endL (i8 (60 :: Q8)) (i8 t)) = _
        rw [pre_i8, q', Bool.false_and, Bool.false_or, endL_hit hQ t j (by omega), show j + 1 + (60 :: Q8).length = (j + (60 :: Q8).length) + 1 by omega, List.drop_succ_cons]
end
theorem cat_tag (nm : ByteArray) : ((⟨#[60, 47]⟩ : ByteArray) ++ nm).data.toList = 60 :: (47 :: nm.data.toList) := by
  rw [ByteArray.toList_data_append]; rfl
theorem bl_tag (nm : ByteArray) : bl ((⟨#[60, 47]⟩ : ByteArray) ++ nm) = i8 (60 :: (47 :: nm.data.toList)) := by
  rw [bl_i8, cat_tag]
theorem closes_l {nm : ByteArray} (hn : (bl nm).all nmI = true) (hz : nm.size ≤ 24) : ∀ (n : Nat) (x : ByteArray), x.size ≤ n → x.size ≤ 100000 → Ev (fun k => pen_closes.l0 k nm x) (endL (bl ((⟨#[60, 47]⟩ : ByteArray) ++ nm)) (bl x))
  | n, x, h, hx => by
    have hQ : ∀ y ∈ i8 (47 :: nm.data.toList), y ≠ 60 := fun y hy => by
      rcases List.mem_cons.1 (show y ∈ (47 : Int) :: bl nm from hy) with rfl | hy
      · decide
      · have := nmI_iff.1 (List.all_eq_true.1 hn y hy)
        omega
    refine Ev.step (fun k => by rw [pen_closes.l0]) (Ev.ite_pos (by omega) ?_)
    have hc : strings_Cut.f x ((⟨#[60, 47]⟩ : ByteArray) ++ nm) = some (⟨(Lib.cut x.data.toList (60 :: (47 :: nm.data.toList))).1.toArray⟩, ⟨(Lib.cut x.data.toList (60 :: (47 :: nm.data.toList))).2.1.toArray⟩, (Lib.cut x.data.toList (60 :: (47 :: nm.data.toList))).2.2) := by
      unfold strings_Cut.f
      rw [if_pos (by omega), cat_tag]
    refine Ev.bind (Ev.pure fun _ => hc) ?_
    rw [bl_tag, bl_i8 x]
    unfold Lib.cut
    rcases Lib.index_spec x.data.toList (60 :: (47 :: nm.data.toList)) with ⟨hi, _⟩ | ⟨i, hi, hil, _, _⟩
    · rw [hi, if_neg (by decide), endL_miss _ _ hi]
      exact Ev.ite_neg (show ¬ (false : Bool) = true by decide) (Ev.now _)
    · rw [hi, if_pos (by omega), Int.toNat_natCast]
      refine Ev.ite_pos rfl ?_
      simp only
      have hroom := Lib.index_room x.data.toList (60 :: (47 :: nm.data.toList)) (by omega)
      rw [hi] at hroom
      have hxl : x.data.toList.length = x.size := (size_length x).symm
      rw [hxl] at hroom
      rw [endL_hit hQ _ _ hi]
      have hlen : (60 :: (47 :: nm.data.toList)).length = nm.size + 2 := by rw [List.length_cons, List.length_cons, ← size_length]
      obtain ⟨after, ha⟩ : ∃ a : ByteArray, a = ⟨(x.data.toList.drop (i + (60 :: (47 :: nm.data.toList)).length)).toArray⟩ := ⟨_, rfl⟩
      have hal : after.data.toList = x.data.toList.drop (i + (60 :: (47 :: nm.data.toList)).length) := by rw [ha]
      rw [← ha, ← hal, ← bl_i8 after]
      have has : after.size = x.size - (i + (nm.size + 2)) := by rw [size_length, hal, List.length_drop, hxl, hlen]
      rw [show ((60 :: (47 :: nm.data.toList)).length : Int) = (nm.size : Int) + 2 by omega] at hroom
      match n, h with
      | 0, h => exact absurd h (by omega)
      | n + 1, h =>
      have next := closes_l hn hz n after (by omega) (by omega)
      rw [bl_tag] at next
      by_cases q : bl after = []
      · refine Ev.ite_pos (bl_nil.2 q) ?_
        rw [show stopI (bl after) = false by rw [q]; rfl, Bool.false_or]
        exact next
      · refine Ev.ite_neg (fun z => q (bl_nil.1 z)) ?_
        have hpos : 0 < after.size := by rw [← bl_length]; exact List.length_pos_iff.2 q
        have hb := bl_at (s := after) (i := 0) hpos
        rw [List.drop_zero] at hb
        have hst : stopI (bl after) = (spB (bt after 0) || decide (bt after 0 = 47) || decide (bt after 0 = 62)) := by rw [hb]; rfl
        rw [hst]
        refine Ev.ite_pos (by omega) (Ev.bind (Ev.pure fun _ => space_f _) ?_)
        by_cases q1 : spB (bt after 0) = true
        · rw [q1]; exact Ev.ite_pos rfl (Ev.now _)
        rw [Bool.eq_false_iff.2 q1, Bool.false_or]
        refine Ev.ite_neg (by decide) ?_
        by_cases q2 : bt after 0 = 47
        · rw [decide_eq_true q2]; exact Ev.ite_pos q2 (Ev.now _)
        rw [decide_eq_false q2, Bool.false_or]
        refine Ev.ite_neg q2 ?_
        by_cases q3 : bt after 0 = 62
        · rw [decide_eq_true q3]; exact Ev.ite_pos q3 (Ev.now _)
        rw [decide_eq_false q3, Bool.false_or]
        exact Ev.ite_neg q3 next
theorem rraw_l {s nm x : ByteArray} (hx : x.size ≤ 100000) (hz : nm.size ≤ 24) : ∀ d i : Nat, d + i = x.size → Ev (fun k => rectoref06_Raw.l0 k s nm x (i : Int)) (if endL (bl ((⟨#[60, 47]⟩ : ByteArray) ++ nm)) ((bl x).drop i) = true then ((⟨#[]⟩ : ByteArray), (4 : Int)) else (s, 0))
  | 0, i, h => by
    refine Ev.step (fun k => by rw [rectoref06_Raw.l0]) (Ev.ite_neg (by omega) (Ev.cast (Ev.now _) ?_))
    rw [List.drop_eq_nil_of_le (by rw [bl_length]; omega)]; rfl
  | d + 1, i, h => by
    have hlt : i < x.size := by omega
    have e1 : wrap64 ((i : Int) + 1) = ((i + 1 : Nat) : Int) := by rw [w64 (by omega) (by omega)]; rfl
    have e2 : wrap64 (wrap64 ((i : Int) + 2) + (nm.size : Int)) = ((i + 2 + nm.size : Nat) : Int) := by rw [w64 (x := (i : Int) + 2) (by omega) (by omega), w64 (by omega) (by omega)]; rfl
    have next := rraw_l (s := s) (nm := nm) hx hz d (i + 1) (by omega)
    obtain ⟨P, hP⟩ : ∃ P, P = bl ((⟨#[60, 47]⟩ : ByteArray) ++ nm) := ⟨_, rfl⟩
    have hPl : P.length = nm.size + 2 := by rw [hP, bl_length, ByteArray.size_append]; exact Nat.add_comm _ _
    have hzz : ((⟨#[60, 47]⟩ : ByteArray) ++ nm).size ≤ 100000 := by rw [← bl_length, ← hP, hPl]; omega
    have hat := at6_f (s := x) (x := (⟨#[60, 47]⟩ : ByteArray) ++ nm) (i := i) hx hzz (by omega)
    rw [← hP] at next hat
    refine Ev.step (fun k => by rw [rectoref06_Raw.l0]) ?_
    rw [e1, e2, ← hP]
    have e : endL P ((bl x).drop i) = ((P.isPrefixOf ((bl x).drop i) && stopI (((bl x).drop i).drop P.length)) || endL P ((bl x).drop (i + 1))) := by rw [bl_at hlt]; rfl
    rw [List.drop_drop, hPl] at e
    have no : (P.isPrefixOf ((bl x).drop i) && stopI ((bl x).drop (i + (nm.size + 2)))) = false → Ev (fun k => rectoref06_Raw.l0 k s nm x ((i + 1 : Nat) : Int)) (if endL P ((bl x).drop i) = true then ((⟨#[]⟩ : ByteArray), (4 : Int)) else (s, 0)) := fun z => by
      rw [e, z, Bool.false_or]; exact next
    have yes : (P.isPrefixOf ((bl x).drop i) && stopI ((bl x).drop (i + (nm.size + 2)))) = true → Ev (fun _ => some ((⟨#[]⟩ : ByteArray), (4 : Int))) (if endL P ((bl x).drop i) = true then ((⟨#[]⟩ : ByteArray), (4 : Int)) else (s, 0)) := fun z => by
      rw [e, z, Bool.true_or, if_pos rfl]; exact Ev.now _
    refine Ev.ite_pos (by omega) (Ev.ite_pos (by omega) (Ev.bind (Ev.pure fun _ => hat) ?_))
    by_cases q : P.isPrefixOf ((bl x).drop i) = true
    · rw [q, Bool.true_and] at no yes
      rw [q]
      refine Ev.ite_pos rfl ?_
      by_cases hl : i + 2 + nm.size < x.size
      · have hb := bl_at hl
        rw [show i + 2 + nm.size = i + (nm.size + 2) by omega] at hb ⊢
        rw [hb] at no yes
        refine Ev.ite_pos (by omega) (Ev.ite_pos (by omega) (Ev.bind (Ev.pure fun _ => rspace_f _) ?_))
        generalize bt x ((i + (nm.size + 2) : Nat) : Int) = b at no yes ⊢
        have no' : (spB b || decide (b = 47) || decide (b = 62)) = false → _ := no
        have yes' : (spB b || decide (b = 47) || decide (b = 62)) = true → _ := yes
        by_cases q1 : spB b = true
        · rw [q1] at yes' ⊢; exact Ev.ite_pos rfl (yes' rfl)
        rw [Bool.eq_false_iff.2 q1] at yes' no' ⊢
        rw [Bool.false_or] at yes' no'
        refine Ev.ite_neg (by decide) ?_
        by_cases q2 : b = 47
        · rw [decide_eq_true q2] at yes'; exact Ev.ite_pos q2 (yes' rfl)
        rw [decide_eq_false q2, Bool.false_or] at yes' no'
        refine Ev.ite_neg q2 ?_
        by_cases q3 : b = 62
        · exact Ev.ite_pos q3 (yes' (decide_eq_true q3))
        · exact Ev.ite_neg q3 (no' (decide_eq_false q3))
      · refine Ev.ite_neg (by omega) (no ?_)
        rw [List.drop_eq_nil_of_le (by rw [bl_length]; omega)]; rfl
    · rw [Bool.eq_false_iff.2 q]
      refine Ev.ite_neg (by decide) (no ?_)
      rw [Bool.eq_false_iff.2 q, Bool.false_and]
/-- What is read as it is. -/
def rawG (s nm : ByteArray) : ByteArray × Int := if name8 nm = true ∧ goodB s = true then (if endL (bl ((⟨#[60, 47]⟩ : ByteArray) ++ nm)) ((bl s).map lowI) = true then (⟨#[]⟩, 4) else (s, 0)) else (⟨#[]⟩, 4)
theorem raw_ev {s nm : ByteArray} (hs : s.size ≤ 100000) : Ev (fun k => pen_Raw.f k s nm) (rawG s nm) := by
  unfold pen_Raw.f rawG
  refine Ev.bind (Ev.pure fun _ => name_f nm) ?_
  by_cases q : name8 nm = true
  · obtain ⟨h24, hnm⟩ := name_nm q
    refine Ev.ite_pos q (Ev.bind (good_ev hs) ?_)
    by_cases g : goodB s = true
    · rw [if_pos ⟨q, g⟩]
      have hb : bl (strOfNums ((bl s).map lowI)) = (bl s).map lowI := bl_strOfNums (byt_low (byt_bl s))
      have hz : (strOfNums ((bl s).map lowI)).size = s.size := by rw [size_nums, List.length_map, bl_length]
      have hc := closes_l hnm h24 _ (strOfNums ((bl s).map lowI)) (Nat.le_refl _) (by omega)
      rw [hb] at hc
      refine Ev.ite_pos g (Ev.bind (g := fun k => pen_closes.f k s nm) (Ev.bind (Ev.pure fun _ => lower_ev (by omega)) hc) ?_)
      by_cases e : endL (bl ((⟨#[60, 47]⟩ : ByteArray) ++ nm)) ((bl s).map lowI) = true
      · exact Ev.cast (Ev.ite_pos e (Ev.now _)) (if_pos e).symm
      · exact Ev.cast (Ev.ite_neg e (Ev.now _)) (if_neg e).symm
    · rw [if_neg (fun z => g z.2)]; exact Ev.ite_neg g (Ev.now _)
  · rw [if_neg (fun z => q z.1)]; exact Ev.ite_neg q (Ev.now _)
theorem rraw_ev {s nm : ByteArray} (hs : s.size ≤ 100000) (hn : nm.size ≤ 100000) : Ev (fun k => rectoref06_Raw.f k s nm) (rawG s nm) := by
  have no : ∀ b : Bool, b = true → Ev (fun k => rectoref06_Raw.j0 k s nm b) ((⟨#[]⟩ : ByteArray), (4 : Int)) := fun b hb => Ev.step (fun k => by rw [rectoref06_Raw.j0]) (Ev.ite_pos hb (Ev.now _))
  unfold rectoref06_Raw.f rawG
  refine Ev.bind (rname_ev hn) ?_
  by_cases q : name8 nm = true
  · obtain ⟨h24, hnm⟩ := name_nm q
    refine Ev.ite_pos q (Ev.bind (rgood_ev hs) ?_)
    by_cases g : goodB s = true
    · rw [if_pos ⟨q, g⟩, g]
      have hb : bl (strOfNums ((bl s).map lowI)) = (bl s).map lowI := bl_strOfNums (byt_low (byt_bl s))
      have hz : (strOfNums ((bl s).map lowI)).size = s.size := by rw [size_nums, List.length_map, bl_length]
      have hr := rraw_l (s := s) (nm := nm) (x := strOfNums ((bl s).map lowI)) (by omega) h24 _ 0 rfl
      rw [hb, List.drop_zero] at hr
      exact Ev.step (fun k => by rw [rectoref06_Raw.j0]) (Ev.ite_neg (by decide) (Ev.bind (rlower_ev hs) hr))
    · rw [if_neg (fun z => g z.2)]
      exact no _ (by rw [Bool.eq_false_iff.2 g]; rfl)
  · rw [if_neg (fun z => q z.1)]
    exact Ev.ite_neg q (no true rfl)
end Go.Proofs.YtdoapeandigooaaDoor.P
