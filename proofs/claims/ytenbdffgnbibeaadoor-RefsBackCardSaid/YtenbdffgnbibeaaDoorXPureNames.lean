/- References, plainly: the character of a name, and of a number. -/
import Derived.Test.YtenbdffgnbibeaaDoorXPureAll
import Derived.Test.YtenbdffgnbibeaaDoorX2
import Derived.Test.YtenbdffgnbibeaaDoorX5
namespace Go.Proofs.YtenbdffgnbibeaaDoor.X
open Go.RowKit Go.Proofs.YtenbdffgnbibeaaDoorW.PrintWords Go.Proofs.YtenbdffgnbibeaaDoorW.PrintLast

/-- The character of the first row with a name; 0: there is none. -/
def look : List (List UInt8 × Int) → List UInt8 → Int
  | [], _ => 0
  | p :: l, x => if p.1 = x then p.2 else look l x
def names : List (List UInt8 × Int) := rRefs.map fun p => (p.1, p.2.1)
theorem names_row1 : ∀ i : Fin 28, names.drop i.val = ((rd_T75 tab_1 (i.val : Int)).f0.data.toList, (rd_T75 tab_1 (i.val : Int)).f1) :: names.drop (i.val + 1) ∧ (rd_T75 tab_1 (i.val : Int)).f1 ≠ 0 := by decide +kernel
theorem name_l0 (s : ByteArray) : ∀ d i : Nat, d + i = 28 → Ev (fun k => refs_Name.l0 k s (i : Int)) (look (names.drop i) s.data.toList, look (names.drop i) s.data.toList != 0)
  | 0, i, h => by
    obtain rfl : i = 28 := by omega
    exact Ev.step (fun k => rfl) (Ev.ite_neg (by omega) (Ev.now _))
  | d + 1, i, h => by
    obtain ⟨e, hn⟩ := names_row1 ⟨i, by omega⟩
    simp only at e hn
    rw [e, look]
    refine Ev.step (fun k => rfl) (Ev.ite_pos (by omega) (Ev.ite_pos (by omega) ?_))
    by_cases q : (rd_T75 tab_1 (i : Int)).f0.data.toList = s.data.toList
    · rw [if_pos q]
      exact Ev.ite_pos (by rw [toList_data, toList_data]; exact q) (Ev.cast (Ev.now _) (by rw [Prod.mk.injEq]; exact ⟨rfl, (bne_iff_ne.2 hn).symm⟩))
    · rw [if_neg q]
      refine Ev.ite_neg (by rw [toList_data, toList_data]; exact q) ?_
      rw [w64 (by omega) (by omega)]
      exact name_l0 s d (i + 1) (by omega)
theorem name_ev (s : ByteArray) : Ev (fun k => refs_Name.f k s) (look names s.data.toList, look names s.data.toList != 0) := name_l0 s 28 0 rfl
/-- The character that a number stands for. -/
def turned (n : Int) : Int := if n < 128 then n else if n > 159 then n else rd ([8364, 129, 8218, 402, 8222, 8230, 8224, 8225, 710, 8240, 352, 8249, 338, 141, 381, 143, 144, 8216, 8217, 8220, 8221, 8226, 8211, 8212, 732, 8482, 353, 8250, 339, 157, 382, 376] : List Int) (n - 128)
def num (n : Int) : Int := if n < 1 then 65533 else if isC n = true then turned n else 65533
def lookT : List (Int × Int) → Int → Int
  | [], n => n
  | p :: l, n => if p.1 = n then p.2 else lookT l n
theorem lookT_no (n : Int) : ∀ l : List (Int × Int), (∀ p ∈ l, p.1 ≠ n) → lookT l n = n
  | [], _ => rfl
  | p :: l, h => by
    rw [lookT, if_neg (h p (List.mem_cons_self ..))]
    exact lookT_no n l fun q hq => h q (List.mem_cons_of_mem _ hq)
theorem turns_range : ∀ p ∈ rTurns, 128 ≤ p.1 ∧ p.1 ≤ 159 := by decide +kernel
theorem turns_in : ∀ i : Fin 32, lookT rTurns ((i.val : Int) + 128) = turned ((i.val : Int) + 128) := by decide +kernel
theorem lookT_turned (n : Int) : lookT rTurns n = turned n := by
  by_cases h0 : n < 128
  · rw [lookT_no n _ fun p hp e => by have := turns_range p hp; omega]
    unfold turned; rw [if_pos h0]
  · by_cases h1 : n > 159
    · rw [lookT_no n _ fun p hp e => by have := turns_range p hp; omega]
      unfold turned; rw [if_neg h0, if_pos h1]
    · have := turns_in ⟨(n - 128).toNat, by omega⟩
      rw [show (((n - 128).toNat : Nat) : Int) + 128 = n by omega] at this
      exact this
theorem turns_row : ∀ i : Fin 27, rTurns.drop i.val = ((rd_T82 tab_2 (i.val : Int)).f0, (rd_T82 tab_2 (i.val : Int)).f1) :: rTurns.drop (i.val + 1) := by decide +kernel
theorem num_l0 (n : Int) : ∀ d i : Nat, d + i = 27 → Ev (fun k => refs_Number.l0 k n (i : Int)) (lookT (rTurns.drop i) n)
  | 0, i, h => by
    obtain rfl : i = 27 := by omega
    exact Ev.step (fun k => rfl) (Ev.ite_neg (by omega) (Ev.now _))
  | d + 1, i, h => by
    have e := turns_row ⟨i, by omega⟩
    simp only at e
    rw [e, lookT]
    refine Ev.step (fun k => rfl) (Ev.ite_pos (by omega) (Ev.ite_pos (by omega) ?_))
    by_cases q : (rd_T82 tab_2 (i : Int)).f0 = n
    · rw [if_pos q]
      exact Ev.ite_pos q (Ev.now _)
    · rw [if_neg q]
      refine Ev.ite_neg q ?_
      rw [w64 (by omega) (by omega)]
      exact num_l0 n d (i + 1) (by omega)
theorem num_ev (n : Int) : Ev (fun k => refs_Number.f k n) (num n) := by
  unfold refs_Number.f num
  have yes : ∀ b : Bool, b = true → Ev (fun k => refs_Number.j0 k n b) 65533 := fun b hb => Ev.step (fun k => rfl) (Ev.ite_pos hb (Ev.now _))
  have no : ∀ b : Bool, b = false → Ev (fun k => refs_Number.j0 k n b) (turned n) := fun b hb => Ev.step (fun k => rfl) (Ev.ite_neg (by rw [hb]; decide) (by have := num_l0 n 27 0 rfl; rw [List.drop_zero, lookT_turned] at this; exact this))
  by_cases h0 : n ≤ 0
  · exact Ev.ite_pos h0 (by rw [if_pos (by omega)]; exact yes _ rfl)
  refine Ev.ite_neg h0 ?_
  rw [if_neg (show ¬ n < 1 by omega)]
  by_cases h1 : n > 1114111
  · exact Ev.ite_pos h1 (by rw [if_neg (fun c => by have := isC_iff.1 c; omega)]; exact yes _ rfl)
  refine Ev.ite_neg h1 ?_
  by_cases h2 : n ≥ 55296
  · refine Ev.ite_pos h2 ?_
    by_cases h3 : n ≤ 57343
    · rw [if_neg (fun c => by have := isC_iff.1 c; omega)]; exact yes _ (decide_eq_true h3)
    · rw [if_pos (isC_iff.2 (by omega))]; exact no _ (decide_eq_false h3)
  · refine Ev.ite_neg h2 ?_
    rw [if_pos (isC_iff.2 (by omega))]; exact no _ rfl
theorem turned_lo {n : Int} (h : n < 128) : turned n = n := if_pos h
theorem turned_hi {n : Int} (h : ¬ n < 128) (h' : n > 159) : turned n = n := by unfold turned; rw [if_neg h, if_pos h']
theorem turned_in {n : Int} (h : ¬ n < 128) (h' : ¬ n > 159) : turned n = rd ([8364, 129, 8218, 402, 8222, 8230, 8224, 8225, 710, 8240, 352, 8249, 338, 141, 381, 143, 144, 8216, 8217, 8220, 8221, 8226, 8211, 8212, 732, 8482, 353, 8250, 339, 157, 382, 376] : List Int) (n - 128) := by unfold turned; rw [if_neg h, if_neg h']
end Go.Proofs.YtenbdffgnbibeaaDoor.X
