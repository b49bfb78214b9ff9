/- strings.ReplaceAll, plainly: of one byte, it is put in place byte by byte; of any text, from the left. -/
import Derived.Test.YtdoapeandigooaaDoorPPure0
import Derived.Test.YtdoapeandigooaaDoorPRepl
import Derived.Lib.CountLaws
namespace Go.Proofs.YtdoapeandigooaaDoor.P
open Go.RowKit Go.Proofs.YtdoapeandigooaaDoorW.PrintWords Go.Proofs.YtdoapeandigooaaDoorW.PrintLast

section
variable {old new : List UInt8}
theorem index_miss {b : UInt8} {l : List UInt8} (h : old.isPrefixOf (b :: l) = false) : Lib.index (b :: l) old = if Lib.index l old == -1 then -1 else Lib.index l old + 1 := by
  conv => lhs; unfold Lib.index
  rw [h]; rfl
theorem index_pre {b : UInt8} {l : List UInt8} (h : old.isPrefixOf (b :: l) = true) : Lib.index (b :: l) old = 0 := by
  conv => lhs; unfold Lib.index
  rw [if_pos h]
theorem rA_eq (hn : (old == new) = false) (s : List UInt8) : Lib.replaceAll s old new = Lib.replaceK old new (Lib.count s old) s := by
  unfold Lib.replaceAll Lib.replace Lib.replaceNum
  rw [hn, if_neg Bool.false_ne_true, if_pos (Or.inl (by decide))]
theorem rA_at (ho : old ≠ []) (hn : (old == new) = false) {s : List UInt8} {i : Nat} (h : Lib.index s old = i) : Lib.replaceAll s old new = s.take i ++ new ++ Lib.replaceAll (s.drop (i + old.length)) old new := by
  rw [rA_eq hn, rA_eq hn, Lib.count_hit ho h, Nat.add_comm, Lib.replaceK_hit _ _ _ _ _ h]
theorem rA_no (hn : (old == new) = false) {s : List UInt8} (h : Lib.index s old = -1) : Lib.replaceAll s old new = s := by
  rw [rA_eq hn, Lib.count_miss h, Lib.replaceK]
theorem rA_nil (ho : old ≠ []) (hn : (old == new) = false) : Lib.replaceAll [] old new = [] := rA_no hn (by
  rcases Lib.index_spec [] old with ⟨h, _⟩ | ⟨i, h, h1, h2, _⟩
  · exact h
  · obtain rfl : i = 0 := by simpa using h1
    cases old with
    | nil => exact absurd rfl ho
    | cons a t => simp [Lib.occAt] at h2)
theorem rA_hit (ho : old ≠ []) (hn : (old == new) = false) {b : UInt8} {l : List UInt8} (h : old.isPrefixOf (b :: l) = true) : Lib.replaceAll (b :: l) old new = new ++ Lib.replaceAll ((b :: l).drop old.length) old new := by
  rw [rA_at ho hn (i := 0) (index_pre h), List.take_zero, List.nil_append, Nat.zero_add]
theorem rA_miss (ho : old ≠ []) (hn : (old == new) = false) {b : UInt8} {l : List UInt8} (h : old.isPrefixOf (b :: l) = false) : Lib.replaceAll (b :: l) old new = b :: Lib.replaceAll l old new := by
  have e := index_miss h
  by_cases q : Lib.index l old = -1
  · rw [if_pos (beq_iff_eq.2 q)] at e
    rw [rA_no hn e, rA_no hn q]
  · have hg := Lib.index_ge l old
    obtain ⟨i, hi⟩ := Int.eq_ofNat_of_zero_le (show 0 ≤ Lib.index l old by omega)
    rw [if_neg (by rw [beq_iff_eq]; exact q), hi] at e
    rw [rA_at ho hn (i := i + 1) (by rw [e]; omega), rA_at ho hn hi, show i + 1 + old.length = (i + old.length) + 1 by omega, List.take_succ_cons, List.drop_succ_cons]
    rfl
end
/-- Each byte of a kind put otherwise. -/
def fl (c : Int) (new : List Int) (l : List Int) : List Int := l.flatMap fun x => if x = c then new else [x]
abbrev i8 (l : List UInt8) : List Int := l.map fun b => (b.toNat : Int)
theorem i8_inj {a b : UInt8} (h : (a.toNat : Int) = (b.toNat : Int)) : a = b := UInt8.toNat_inj.1 (by omega)
theorem rep1 {c : UInt8} {new : List UInt8} (hn : ([c] == new) = false) : ∀ l : List UInt8, i8 (Lib.replaceAll l [c] new) = fl (c.toNat : Int) (i8 new) (i8 l)
  | [] => by rw [rA_nil (by simp) hn]; rfl
  | b :: l => by
    by_cases q : c = b
    · subst q
      rw [rA_hit (by simp) hn (by simp)]
      simp only [List.length_cons, List.length_nil, Nat.zero_add, List.drop_succ_cons, List.drop_zero, i8, List.map_append, List.map_cons, fl, List.flatMap_cons, if_true]
      exact congrArg _ (rep1 hn l)
    · rw [rA_miss (by simp) hn (by rw [Bool.eq_false_iff]; intro z; rw [List.isPrefixOf_iff_prefix] at z; obtain ⟨t, ht⟩ := z; exact q (List.cons.inj ht).1)]
      simp only [i8, List.map_cons, fl, List.flatMap_cons]
      rw [if_neg (fun z => q (i8_inj z).symm)]
      exact congrArg _ (rep1 hn l)
theorem ra_size (s p : ByteArray) (h1 : 1 ≤ p.size) : Lib.countB s p ≤ s.size := by
  have := Lib.countB_mul_le p h1 s.size s (Nat.le_refl _)
  exact Nat.le_trans (Nat.le_mul_of_pos_right _ h1) this
theorem ra_f {s p q : ByteArray} (hs : s.size < 4294967281) (h1 : 1 ≤ p.size) (hq : q.size ≤ 16384) : strings_ReplaceAll.f s p q = some ⟨(Lib.replaceAll s.data.toList p.data.toList q.data.toList).toArray⟩ := by
  unfold strings_ReplaceAll.f
  have := ra_size s p h1
  have h2 := Nat.mul_le_mul this hq
  rw [if_pos ⟨hs, h1, by omega⟩]
theorem bl_i8 (s : ByteArray) : bl s = i8 s.data.toList := rfl
/-- Of one byte. -/
theorem ra1 {s q : ByteArray} {c : UInt8} (hs : s.size < 4294967281) (hq : q.size ≤ 16384) (hn : ([c] == q.data.toList) = false) : ∃ r, strings_ReplaceAll.f s ⟨#[c]⟩ q = some r ∧ bl r = fl (c.toNat : Int) (bl q) (bl s) :=
  ⟨_, ra_f hs (Nat.le_refl 1) hq, rep1 hn _⟩
/-- Each pair put otherwise; 'true': the first byte has been taken. -/
def prS (a b : Int) (new : List Int) : Bool → List Int → List Int
  | _, [] => []
  | true, _ :: l => prS a b new false l
  | false, x :: l => if x = a ∧ l.getD 0 (-1) = b then new ++ prS a b new true l else x :: prS a b new false l
theorem pr_hit (a b : Int) (new l : List Int) : prS a b new false (a :: b :: l) = new ++ prS a b new false l := by rw [prS, if_pos ⟨rfl, rfl⟩, prS]
theorem pr_miss {a b x : Int} {new l : List Int} (h : ¬ (x = a ∧ l.getD 0 (-1) = b)) : prS a b new false (x :: l) = x :: prS a b new false l := by rw [prS, if_neg h]
theorem rep2g {a b : UInt8} {new : List UInt8} (hn : ([a, b] == new) = false) : ∀ (n : Nat) (l : List UInt8), l.length ≤ n → i8 (Lib.replaceAll l [a, b] new) = prS (a.toNat : Int) (b.toNat : Int) (i8 new) false (i8 l)
  | _, [], _ => by rw [rA_nil (by simp) hn]; rfl
  | 0, x :: l, h => by simp at h
  | n + 1, x :: l, h => by
    rw [List.length_cons] at h
    by_cases q : ([a, b] : List UInt8).isPrefixOf (x :: l) = true
    · rw [rA_hit (by simp) hn q]
      rw [List.isPrefixOf_iff_prefix] at q
      obtain ⟨t, ht⟩ := q
      have hl : l = b :: t := (List.cons.inj ht).2.symm
      rw [← ht]
      simp only [List.length_cons, List.length_nil, Nat.zero_add, Nat.reduceAdd, List.cons_append, List.nil_append, List.drop_succ_cons, List.drop_zero, i8, List.map_append, List.map_cons]
      rw [pr_hit]
      exact congrArg _ (rep2g hn n t (by rw [hl, List.length_cons] at h; omega))
    · have q' := Bool.eq_false_iff.2 q
      rw [rA_miss (by simp) hn q']
      simp only [i8, List.map_cons]
      rw [pr_miss]
      · exact congrArg _ (rep2g hn n l (by omega))
      · rintro ⟨z1, z2⟩
        obtain rfl : x = a := i8_inj z1
        cases l with
        | nil => simp at z2
        | cons d t =>
          obtain rfl : d = b := i8_inj (by simpa using z2)
          exact q (by simp)
/-- Of two bytes. -/
theorem ra2 {s q : ByteArray} {a b : UInt8} (hs : s.size < 4294967281) (hq : q.size ≤ 16384) (hn : ([a, b] == q.data.toList) = false) : ∃ r, strings_ReplaceAll.f s ⟨#[a, b]⟩ q = some r ∧ bl r = prS (a.toNat : Int) (b.toNat : Int) (bl q) false (bl s) :=
  ⟨_, ra_f hs (show 1 ≤ 2 by decide) hq, rep2g hn _ _ (Nat.le_refl _)⟩
theorem fl_cons (c : Int) (new : List Int) (b : Int) (l : List Int) : fl c new (b :: l) = (if b = c then new else [b]) ++ fl c new l := by unfold fl; rw [List.flatMap_cons]
theorem fl_app (c : Int) (new : List Int) (a l : List Int) : fl c new (a ++ l) = fl c new a ++ fl c new l := by unfold fl; rw [List.flatMap_append]
theorem fl_nil (c : Int) (new : List Int) : fl c new [] = [] := rfl
theorem fl_id {c : Int} {new a : List Int} (h : ∀ x ∈ a, x ≠ c) : fl c new a = a := by
  induction a with
  | nil => rfl
  | cons b l ih => rw [fl_cons, if_neg (h b (List.mem_cons_self ..)), ih fun x hx => h x (List.mem_cons_of_mem _ hx)]; rfl
theorem fl_len {c : Int} {new : List Int} {m : Nat} (hm : new.length ≤ m) (h1 : 1 ≤ m) : ∀ l : List Int, (fl c new l).length ≤ m * l.length
  | [] => by simp [fl]
  | b :: l => by
    have := fl_len (c := c) (new := new) hm h1 l
    rw [fl_cons, List.length_append, List.length_cons, Nat.mul_succ]
    split
    · omega
    · simp only [List.length_cons, List.length_nil]; omega
theorem pr_len {a b : Int} {new : List Int} {m : Nat} (hm : new.length ≤ m) (h1 : 1 ≤ m) : ∀ (f : Bool) (l : List Int), (prS a b new f l).length ≤ m * l.length
  | true, [] => Nat.zero_le _
  | false, [] => Nat.zero_le _
  | true, x :: l => by have := pr_len (a := a) (b := b) hm h1 false l; rw [prS, List.length_cons, Nat.mul_succ]; omega
  | false, x :: l => by
    have h1' := pr_len (a := a) (b := b) hm h1 false l
    have h2' := pr_len (a := a) (b := b) hm h1 true l
    rw [prS]
    split
    · rw [List.length_append, List.length_cons, Nat.mul_succ]; omega
    · rw [List.length_cons, List.length_cons, Nat.mul_succ]; omega
end Go.Proofs.YtdoapeandigooaaDoor.P
