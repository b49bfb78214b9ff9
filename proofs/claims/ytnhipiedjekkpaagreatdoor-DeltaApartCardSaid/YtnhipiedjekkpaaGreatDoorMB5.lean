/- What the code of this statement does, over values that stand for data: an executor of the model's code, that it is sound, and contracts of functions: part 5. No condition is added to the statement. -/
import Derived.Test.YtnhipiedjekkpaaGreatDoorMB4
set_option linter.unusedVariables false
set_option linter.unusedSimpArgs false
section
namespace Go.Proofs.YtnhipiedjekkpaaGreatDoor.AXP
open Go Go.Proofs.YtnhipiedjekkpaaGreatDoor.AX
theorem kb_sz {s : ByteArray} {n : Nat} (h : s.size ≤ n) : (kb s).length ≤ n := by rw [kb_size]; exact h
/-- Texts, each with its length. -/
def txsL : List ByteArray → List UInt8
  | [] => []
  | s :: l => txtL (kb s) ++ txsL l
def lstL (l : List ByteArray) : List UInt8 := numL l.length ++ txsL l
/-- Attributes as texts, and back. -/
def flA : List At → List ByteArray
  | [] => []
  | a :: l => a.name :: a.value :: flA l
def prs : List ByteArray → List At
  | x :: y :: l => ⟨x, y⟩ :: prs l
  | _ => []
theorem prs_fl : ∀ l : List At, prs (flA l) = l
  | [] => rfl
  | a :: l => by rw [flA, prs, prs_fl l]
theorem fl_prs : ∀ (l : List ByteArray), l.length % 2 = 0 → flA (prs l) = l
  | [], _ => rfl
  | [x], h => by simp at h
  | x :: y :: l, h => by
    rw [prs, flA, fl_prs l (by simp only [List.length_cons] at h; omega)]
theorem fl_len : ∀ l : List At, (flA l).length = 2 * l.length
  | [] => rfl
  | a :: l => by rw [flA, List.length_cons, List.length_cons, fl_len l, List.length_cons]; omega
theorem prs_len : ∀ (l : List ByteArray), (prs l).length = l.length / 2
  | [] => rfl
  | [x] => by show 0 = 1 / 2; decide
  | x :: y :: l => by rw [prs, List.length_cons, prs_len l]; simp only [List.length_cons]; omega
theorem fl_all {p : ByteArray → Prop} : ∀ {l : List At}, (∀ a ∈ l, p a.name ∧ p a.value) → ∀ s ∈ flA l, p s
  | [], _, s, h => by cases h
  | a :: l, h, s, hs => by
    rw [flA] at hs
    cases hs with
    | head => exact (h a (.head _)).1
    | tail _ hs =>
      cases hs with
      | head => exact (h a (.head _)).2
      | tail _ hs => exact fl_all (fun b hb => h b (.tail _ hb)) s hs
theorem prs_all {p : ByteArray → Prop} : ∀ {l : List ByteArray}, (∀ s ∈ l, p s) → ∀ a ∈ prs l, p a.name ∧ p a.value
  | [], _, a, h => by cases h
  | [x], _, a, h => by cases h
  | x :: y :: l, h, a, ha => by
    rw [prs] at ha
    cases ha with
    | head => exact ⟨h x (.head _), h y (.tail _ (.head _))⟩
    | tail _ ha => exact prs_all (fun s hs => h s (.tail _ (.tail _ hs))) a ha
/-- So many texts taken off; a list taken off. -/
def pTxs : Nat → List UInt8 → Option (List ByteArray × List UInt8)
  | 0, b => some ([], b)
  | c + 1, b => match takeT b with
    | none => none
    | some (x, r) => match pTxs c r with
      | none => none
      | some (l, z) => some (bk x :: l, z)
def takeL (b : List UInt8) : Option (List ByteArray × List UInt8) :=
  match takeN b with
  | none => none
  | some (n, r) => if n > 1000 then none else pTxs n r
theorem pTxs_inv : ∀ {c : Nat} {b r : List UInt8} {l : List ByteArray}, pTxs c b = some (l, r) → b = txsL l ++ r ∧ l.length = c ∧ ∀ s ∈ l, s.size ≤ 65536
  | 0, b, r, l, h => by
    rw [pTxs] at h
    injection h with h
    injection h with e1 e2
    subst e1; subst e2
    exact ⟨rfl, rfl, fun s hs => (nomatch hs)⟩
  | c + 1, b, r, l, h => by
    rw [pTxs] at h
    split at h
    · cases h
    rename_i x r1 h1
    split at h
    · cases h
    rename_i l' z h2
    injection h with h
    injection h with e1 e2
    subst e1; subst e2
    obtain ⟨rfl, hx⟩ := take_txt_inv h1
    obtain ⟨rfl, rfl, hl⟩ := pTxs_inv h2
    refine ⟨by rw [txsL, kb_bk, List.append_assoc], rfl, fun s hs => ?_⟩
    cases hs with
    | head => rw [bk_size]; exact hx
    | tail _ hs => exact hl s hs
theorem pTxs_bytes : ∀ {l : List ByteArray}, (∀ s ∈ l, s.size ≤ 65536) → ∀ r, pTxs l.length (txsL l ++ r) = some (l, r)
  | [], _, r => rfl
  | s :: l, h, r => by
    rw [List.length_cons, pTxs, txsL, List.append_assoc, take_txt (kb_sz (h s (.head _)))]
    simp only
    rw [pTxs_bytes fun x hx => h x (.tail _ hx)]
    simp only [bk_kb]
theorem takeL_inv {b r : List UInt8} {l : List ByteArray} (h : takeL b = some (l, r)) : b = lstL l ++ r ∧ l.length ≤ 1000 ∧ ∀ s ∈ l, s.size ≤ 65536 := by
  unfold takeL at h
  split at h
  · cases h
  rename_i n r1 h1
  split at h
  · cases h
  obtain ⟨rfl, _⟩ := take_num_inv h1
  obtain ⟨rfl, rfl, hl⟩ := pTxs_inv h
  exact ⟨by unfold lstL; rw [List.append_assoc], by omega, hl⟩
theorem takeL_bytes {l : List ByteArray} (hl : l.length ≤ 1000) (h : ∀ s ∈ l, s.size ≤ 65536) (r : List UInt8) : takeL (lstL l ++ r) = some (l, r) := by
  unfold takeL lstL
  rw [List.append_assoc, take_num (by omega)]
  simp only
  rw [if_neg (by omega), pTxs_bytes h]
/-! ### One node as a text -/
def zN : Nd := ⟨0, 0, ⟨#[]⟩, [], ⟨#[]⟩, []⟩
def rdOne (t : ByteArray) : Option Nd := if rdE t = 0 then (match rdL t with
  | [n] => some n
  | _ => none) else none
def wrNd (n : Nd) : Prop := bytE [n] = 0 ∧ (bytS [n]).size ≤ 65536
theorem rdOne_bytes {n : Nd} (h : bytE [n] = 0) : rdOne (bytS [n]) = some n := by
  obtain ⟨h1, h2⟩ := read_bytes_ok h
  unfold rdOne
  rw [if_pos h2, h1]
theorem rdOne_inv {t : ByteArray} {n : Nd} (h : rdOne t = some n) : bytE [n] = 0 ∧ bytS [n] = t ∧ fineNds [n] := by
  unfold rdOne at h
  split at h
  · rename_i he
    split at h
    · rename_i m hm
      injection h with h
      subst h
      obtain ⟨h1, h2, h3⟩ := bytes_read he
      rw [hm] at h1 h2 h3
      exact ⟨h2, h3, h1⟩
    · cases h
  · cases h
def pNode (b : List UInt8) : Option (Nd × List UInt8) :=
  match takeT b with
  | none => none
  | some (t, r) => match rdOne (bk t) with
    | none => none
    | some n => some (n, r)
theorem pNode_inv {b r : List UInt8} {n : Nd} (h : pNode b = some (n, r)) : b = txtL (kb (bytS [n])) ++ r ∧ wrNd n ∧ fineNds [n] := by
  unfold pNode at h
  split at h
  · cases h
  rename_i t r1 h1
  split at h
  · cases h
  rename_i m h2
  injection h with h
  injection h with e1 e2
  subst e1; subst e2
  obtain ⟨rfl, ht⟩ := take_txt_inv h1
  obtain ⟨h3, h4, h5⟩ := rdOne_inv h2
  unfold wrNd
  rw [h4, kb_bk, bk_size]
  exact ⟨rfl, ⟨h3, ht⟩, h5⟩
theorem pNode_bytes {n : Nd} (h : wrNd n) (r : List UInt8) : pNode (txtL (kb (bytS [n])) ++ r) = some (n, r) := by
  unfold pNode
  rw [take_txt (kb_sz h.2)]
  simp only [bk_kb, rdOne_bytes h.1]
/-! ### Edits -/
def pAts (b : List UInt8) : Option (List At × List UInt8) :=
  match takeL b with
  | none => none
  | some (l, r) => if l.length % 2 > 0 then none else some (prs l, r)
theorem pAts_inv {b r : List UInt8} {l : List At} (h : pAts b = some (l, r)) : b = lstL (flA l) ++ r ∧ l.length ≤ 500 ∧ ∀ a ∈ l, a.name.size ≤ 65536 ∧ a.value.size ≤ 65536 := by
  unfold pAts at h
  split at h
  · cases h
  rename_i l' r1 h1
  split at h
  · cases h
  rename_i h2
  injection h with h
  injection h with e1 e2
  subst e1; subst e2
  obtain ⟨rfl, h3, h4⟩ := takeL_inv h1
  refine ⟨by rw [fl_prs _ (by omega)], ?_, prs_all h4⟩
  rw [prs_len]; omega
theorem pAts_bytes {l : List At} (hl : l.length ≤ 500) (h : ∀ a ∈ l, a.name.size ≤ 65536 ∧ a.value.size ≤ 65536) (r : List UInt8) : pAts (lstL (flA l) ++ r) = some (l, r) := by
  unfold pAts
  rw [takeL_bytes (by rw [fl_len]; omega) (fl_all h)]
  simp only
  rw [if_neg (by rw [fl_len]; omega), prs_fl]
def wayL : List Int → List UInt8
  | [] => []
  | i :: l => numL i.toNat ++ wayL l
def pWay : Nat → List UInt8 → Option (List Int × List UInt8)
  | 0, b => some ([], b)
  | c + 1, b => match takeN b with
    | none => none
    | some (n, r) => if n > 300 then none else match pWay c r with
      | none => none
      | some (l, z) => some ((n : Int) :: l, z)
theorem pWay_inv : ∀ {c : Nat} {b r : List UInt8} {l : List Int}, pWay c b = some (l, r) → b = wayL l ++ r ∧ l.length = c ∧ ∀ i ∈ l, 0 ≤ i ∧ i ≤ 300
  | 0, b, r, l, h => by
    rw [pWay] at h
    injection h with h
    injection h with e1 e2
    subst e1; subst e2
    exact ⟨rfl, rfl, fun s hs => (nomatch hs)⟩
  | c + 1, b, r, l, h => by
    rw [pWay] at h
    split at h
    · cases h
    rename_i n r1 h1
    split at h
    · cases h
    split at h
    · cases h
    rename_i l' z h2
    injection h with h
    injection h with e1 e2
    subst e1; subst e2
    obtain ⟨rfl, _⟩ := take_num_inv h1
    obtain ⟨rfl, rfl, hl⟩ := pWay_inv h2
    refine ⟨by rw [wayL, Int.toNat_natCast, List.append_assoc], rfl, fun i hi => ?_⟩
    cases hi with
    | head => omega
    | tail _ hi => exact hl i hi
theorem pWay_bytes : ∀ {l : List Int}, (∀ i ∈ l, 0 ≤ i ∧ i ≤ 300) → ∀ r, pWay l.length (wayL l ++ r) = some (l, r)
  | [], _, r => rfl
  | i :: l, h, r => by
    have hi := h i (.head _)
    rw [List.length_cons, pWay, wayL, List.append_assoc, take_num (by omega)]
    simp only
    rw [if_neg (by omega), pWay_bytes fun x hx => h x (.tail _ hx)]
    simp only
    rw [Int.toNat_of_nonneg hi.1]
def bodyL (x : Ed) : List UInt8 :=
  if x.what = 1 then txtL (kb (bytS [x.new])) else if x.what = 2 then txtL (kb (bytS [x.old]))
  else if x.what = 3 then lstL (flA x.old.attrs) ++ lstL (flA x.new.attrs)
  else if x.what = 4 then txtL (kb x.old.text) ++ txtL (kb x.new.text) else []
def edL (x : Ed) : List UInt8 := numL x.what.toNat ++ (numL x.way.length ++ (wayL x.way ++ bodyL x))
def edsL : List Ed → List UInt8
  | [] => []
  | x :: s => edL x ++ edsL s
def delL (s : List Ed) : List UInt8 := numL s.length ++ edsL s
def pBody (k : Nat) (w : List Int) (b : List UInt8) : Option (Ed × List UInt8) :=
  if k = 1 then (match pNode b with
    | none => none
    | some (n, r) => some (⟨k, w, zN, n⟩, r))
  else if k = 2 then (match pNode b with
    | none => none
    | some (n, r) => some (⟨k, w, n, zN⟩, r))
  else if k = 3 then (match pAts b with
    | none => none
    | some (x, r) => match pAts r with
      | none => none
      | some (y, z) => some (⟨k, w, { zN with attrs := x }, { zN with attrs := y }⟩, z))
  else if k = 4 then (match takeT b with
    | none => none
    | some (x, r) => match takeT r with
      | none => none
      | some (y, z) => some (⟨k, w, { zN with text := bk x }, { zN with text := bk y }⟩, z))
  else some (⟨k, w, zN, zN⟩, b)
def pEd (b : List UInt8) : Option (Ed × List UInt8) :=
  match takeN b with
  | none => none
  | some (k, r) => match takeN r with
    | none => none
    | some (c, r1) => if k > 4 ∨ c > 41 then none else match pWay c r1 with
      | none => none
      | some (w, r2) => pBody k w r2
def pEds : Nat → List UInt8 → Option (List Ed × List UInt8)
  | 0, b => some ([], b)
  | c + 1, b => match pEd b with
    | none => none
    | some (x, r) => match pEds c r with
      | none => none
      | some (l, z) => some (x :: l, z)
def pDel (b : List UInt8) : Option (List Ed × List UInt8) :=
  match takeN b with
  | none => none
  | some (n, r) => if n > 400 then none else pEds n r
/-- What an edit's parts must be so that it can be written. -/
def wrEd (x : Ed) : Prop := (x.what = 1 → wrNd x.new) ∧ (x.what = 2 → wrNd x.old)
def fineEd (x : Ed) : Prop := (x.what = 1 → fineNds [x.new]) ∧ (x.what = 2 → fineNds [x.old])
def fineEds (s : List Ed) : Prop := ∀ x ∈ s, fineEd x
theorem pBody_inv {k : Nat} {w : List Int} {b r : List UInt8} {x : Ed} (h : pBody k w b = some (x, r)) : x.what = k ∧ x.way = w ∧ b = bodyL x ++ r ∧ wrEd x ∧ fineEd x := by
  unfold pBody at h
  split at h
  · rename_i hk
    subst hk
    split at h
    · cases h
    rename_i n r1 h1
    injection h with h
    injection h with e1 e2
    subst e1; subst e2
    obtain ⟨h2, h3, h4⟩ := pNode_inv h1
    refine ⟨rfl, rfl, ?_, ⟨fun _ => h3, fun e => absurd (show ((1 : Nat) : Int) = 2 from e) (by decide)⟩, ⟨fun _ => h4, fun e => absurd (show ((1 : Nat) : Int) = 2 from e) (by decide)⟩⟩
    unfold bodyL
    rw [if_pos (show ((1 : Nat) : Int) = 1 from rfl)]
    exact h2
  split at h
  · rename_i hk
    subst hk
    split at h
    · cases h
    rename_i n r1 h1
    injection h with h
    injection h with e1 e2
    subst e1; subst e2
    obtain ⟨h2, h3, h4⟩ := pNode_inv h1
    refine ⟨rfl, rfl, ?_, ⟨fun e => absurd (show ((2 : Nat) : Int) = 1 from e) (by decide), fun _ => h3⟩, ⟨fun e => absurd (show ((2 : Nat) : Int) = 1 from e) (by decide), fun _ => h4⟩⟩
    unfold bodyL
    rw [if_neg (show ¬ ((2 : Nat) : Int) = 1 by decide), if_pos (show ((2 : Nat) : Int) = 2 from rfl)]
    exact h2
  split at h
  · rename_i hk
    subst hk
    split at h
    · cases h
    rename_i l r1 h1
    split at h
    · cases h
    rename_i l2 r2 h2
    injection h with h
    injection h with e1 e2
    subst e1; subst e2
    obtain ⟨h3, _, _⟩ := pAts_inv h1
    obtain ⟨h4, _, _⟩ := pAts_inv h2
    refine ⟨rfl, rfl, ?_, ⟨fun e => absurd (show ((3 : Nat) : Int) = 1 from e) (by decide), fun e => absurd (show ((3 : Nat) : Int) = 2 from e) (by decide)⟩, ⟨fun e => absurd (show ((3 : Nat) : Int) = 1 from e) (by decide), fun e => absurd (show ((3 : Nat) : Int) = 2 from e) (by decide)⟩⟩
    unfold bodyL
    rw [if_neg (show ¬ ((3 : Nat) : Int) = 1 by decide), if_neg (show ¬ ((3 : Nat) : Int) = 2 by decide), if_pos (show ((3 : Nat) : Int) = 3 from rfl), h3, h4, List.append_assoc]
  split at h
  · rename_i hk
    subst hk
    split at h
    · cases h
    rename_i l r1 h1
    split at h
    · cases h
    rename_i l2 r2 h2
    injection h with h
    injection h with e1 e2
    subst e1; subst e2
    obtain ⟨h3, _⟩ := take_txt_inv h1
    obtain ⟨h4, _⟩ := take_txt_inv h2
    refine ⟨rfl, rfl, ?_, ⟨fun e => absurd (show ((4 : Nat) : Int) = 1 from e) (by decide), fun e => absurd (show ((4 : Nat) : Int) = 2 from e) (by decide)⟩, ⟨fun e => absurd (show ((4 : Nat) : Int) = 1 from e) (by decide), fun e => absurd (show ((4 : Nat) : Int) = 2 from e) (by decide)⟩⟩
    unfold bodyL
    rw [if_neg (show ¬ ((4 : Nat) : Int) = 1 by decide), if_neg (show ¬ ((4 : Nat) : Int) = 2 by decide), if_neg (show ¬ ((4 : Nat) : Int) = 3 by decide), if_pos (show ((4 : Nat) : Int) = 4 from rfl), h3, h4, List.append_assoc]
    dsimp only
    rw [kb_bk, kb_bk]
  · rename_i h1 h2 h3 h4
    injection h with h
    injection h with e1 e2
    subst e1; subst e2
    have g1 : ¬ ((k : Nat) : Int) = 1 := by omega
    have g2 : ¬ ((k : Nat) : Int) = 2 := by omega
    have g3 : ¬ ((k : Nat) : Int) = 3 := by omega
    have g4 : ¬ ((k : Nat) : Int) = 4 := by omega
    refine ⟨rfl, rfl, ?_, ⟨fun e => absurd e g1, fun e => absurd e g2⟩, ⟨fun e => absurd e g1, fun e => absurd e g2⟩⟩
    unfold bodyL
    rw [if_neg g1, if_neg g2, if_neg g3, if_neg g4]; rfl
theorem pEd_inv {b r : List UInt8} {x : Ed} (h : pEd b = some (x, r)) : b = edL x ++ r ∧ wrEd x ∧ fineEd x := by
  unfold pEd at h
  split at h
  · cases h
  rename_i k r0 h0
  split at h
  · cases h
  rename_i c r1 h1
  split at h
  · cases h
  split at h
  · cases h
  rename_i w r2 h2
  obtain ⟨rfl, _⟩ := take_num_inv h0
  obtain ⟨rfl, _⟩ := take_num_inv h1
  obtain ⟨rfl, rfl, _⟩ := pWay_inv h2
  obtain ⟨q1, q2, rfl, q4, q5⟩ := pBody_inv h
  refine ⟨?_, q4, q5⟩
  unfold edL
  rw [q1, q2, Int.toNat_natCast]
  simp only [List.append_assoc]
theorem pEds_inv : ∀ {c : Nat} {b r : List UInt8} {s : List Ed}, pEds c b = some (s, r) → b = edsL s ++ r ∧ s.length = c ∧ ∀ x ∈ s, wrEd x ∧ fineEd x
  | 0, b, r, l, h => by
    rw [pEds] at h
    injection h with h
    injection h with e1 e2
    subst e1; subst e2
    exact ⟨rfl, rfl, fun s hs => (nomatch hs)⟩
  | c + 1, b, r, l, h => by
    rw [pEds] at h
    split at h
    · cases h
    rename_i x r1 h1
    split at h
    · cases h
    rename_i l' z h2
    injection h with h
    injection h with e1 e2
    subst e1; subst e2
    obtain ⟨rfl, hx⟩ := pEd_inv h1
    obtain ⟨rfl, rfl, hl⟩ := pEds_inv h2
    refine ⟨by rw [edsL, List.append_assoc], rfl, fun s hs => ?_⟩
    cases hs with
    | head => exact hx
    | tail _ hs => exact hl s hs
theorem pDel_inv {b r : List UInt8} {s : List Ed} (h : pDel b = some (s, r)) : b = delL s ++ r ∧ s.length ≤ 400 ∧ ∀ x ∈ s, wrEd x ∧ fineEd x := by
  unfold pDel at h
  split at h
  · cases h
  rename_i n r1 h1
  split at h
  · cases h
  obtain ⟨rfl, _⟩ := take_num_inv h1
  obtain ⟨rfl, rfl, hl⟩ := pEds_inv h
  exact ⟨by unfold delL; rw [List.append_assoc], by omega, hl⟩
/-- A plain edit. -/
structure PlainP (x : Ed) : Prop where
  w0 : 1 ≤ x.what
  w1 : x.what ≤ 4
  n0 : 0 < x.way.length
  n1 : x.way.length ≤ 41
  at_ : ∀ i ∈ x.way, 0 ≤ i ∧ i ≤ 300
  in_ : x.what = 1 → x.old = zN
  out : x.what = 2 → x.new = zN
  att : x.what = 3 → (x.old = { zN with attrs := x.old.attrs } ∧ x.old.attrs.length ≤ 12 ∧ ∀ a ∈ x.old.attrs, a.name.size ≤ 65536 ∧ a.value.size ≤ 65536) ∧
    (x.new = { zN with attrs := x.new.attrs } ∧ x.new.attrs.length ≤ 12 ∧ ∀ a ∈ x.new.attrs, a.name.size ≤ 65536 ∧ a.value.size ≤ 65536)
  txt : x.what = 4 → (x.old = { zN with text := x.old.text } ∧ x.old.text.size ≤ 65536) ∧ (x.new = { zN with text := x.new.text } ∧ x.new.text.size ≤ 65536)
theorem pBody_bytes {x : Ed} (hp : PlainP x) (hw : wrEd x) (r : List UInt8) : pBody x.what.toNat x.way (bodyL x ++ r) = some (x, r) := by
  obtain ⟨w0, w1, _, _, _, h1, h2, h3, h4⟩ := hp
  obtain ⟨k, w, o, n⟩ := x
  dsimp only at w0 w1 h1 h2 h3 h4 ⊢
  obtain ⟨j, rfl⟩ := Int.eq_ofNat_of_zero_le (show 0 ≤ k by omega)
  rw [Int.toNat_natCast]
  unfold pBody bodyL
  dsimp only
  by_cases e1 : j = 1
  · subst e1
    have := h1 rfl
    subst this
    rw [if_pos (show ((1 : Nat) : Int) = 1 from rfl), if_pos rfl, pNode_bytes (hw.1 rfl)]
  have g1 : ¬ ((j : Nat) : Int) = 1 := by omega
  rw [if_neg e1, if_neg g1]
  by_cases e2 : j = 2
  · subst e2
    have := h2 rfl
    subst this
    rw [if_pos (show ((2 : Nat) : Int) = 2 from rfl), if_pos rfl, pNode_bytes (hw.2 rfl)]
  have g2 : ¬ ((j : Nat) : Int) = 2 := by omega
  rw [if_neg e2, if_neg g2]
  by_cases e3 : j = 3
  · subst e3
    obtain ⟨⟨a1, a2, a3⟩, b1, b2, b3⟩ := h3 rfl
    rw [if_pos (show ((3 : Nat) : Int) = 3 from rfl), if_pos rfl, List.append_assoc, pAts_bytes (by omega) a3]
    simp only
    rw [pAts_bytes (by omega) b3]
    simp only
    rw [← a1, ← b1]
  have g3 : ¬ ((j : Nat) : Int) = 3 := by omega
  rw [if_neg e3, if_neg g3]
  have e4 : j = 4 := by omega
  subst e4
  obtain ⟨⟨a1, a2⟩, b1, b2⟩ := h4 rfl
  rw [if_pos (show ((4 : Nat) : Int) = 4 from rfl), if_pos rfl, List.append_assoc, take_txt (kb_sz a2)]
  simp only
  rw [take_txt (kb_sz b2)]
  simp only [bk_kb]
  rw [← a1, ← b1]
theorem pEd_bytes {x : Ed} (hp : PlainP x) (hw : wrEd x) (r : List UInt8) : pEd (edL x ++ r) = some (x, r) := by
  have := hp.w0; have := hp.w1; have := hp.n1
  unfold pEd edL
  simp only [List.append_assoc]
  rw [take_num (by omega)]
  simp only
  rw [take_num (by omega)]
  simp only
  rw [if_neg (by omega), pWay_bytes hp.at_]
  simp only
  exact pBody_bytes hp hw r
theorem pEds_bytes : ∀ {s : List Ed}, (∀ x ∈ s, PlainP x ∧ wrEd x) → ∀ r, pEds s.length (edsL s ++ r) = some (s, r)
  | [], _, r => rfl
  | x :: s, h, r => by
    obtain ⟨h1, h2⟩ := h x (.head _)
    rw [List.length_cons, pEds, edsL, List.append_assoc, pEd_bytes h1 h2]
    simp only
    rw [pEds_bytes fun y hy => h y (.tail _ hy)]
theorem pDel_bytes {s : List Ed} (hl : s.length ≤ 400) (h : ∀ x ∈ s, PlainP x ∧ wrEd x) (r : List UInt8) : pDel (delL s ++ r) = some (s, r) := by
  unfold pDel delL
  rw [List.append_assoc, take_num (by omega)]
  simp only
  rw [if_neg (by omega), pEds_bytes h]
/-! ### The program's reader -/
structure DS where
  b : ByteArray
  bad : Bool
/-- A reader does what a taker says. -/
def RdOK {α : Type} (p : List UInt8 → Option (α × List UInt8)) (f : DS → α × DS) : Prop :=
  (∀ b, (f ⟨b, true⟩).2.bad = true) ∧ ∀ b, match p (kb b) with
    | some (x, r) => f ⟨b, false⟩ = (x, ⟨bk r, false⟩)
    | none => (f ⟨b, false⟩).2.bad = true
def dNum (m : Int) (s : DS) : Int × DS := if tkE s.b ≠ 0 ∨ tkN s.b > m then (0, ⟨tkR s.b, true⟩) else (tkN s.b, ⟨tkR s.b, s.bad⟩)
def dTxt (s : DS) : ByteArray × DS := (ttS s.b, ⟨ttR s.b, s.bad || ttE s.b != 0⟩)
def dNode (s : DS) : Nd × DS := match rdOne (ttS s.b) with
  | some n => (n, ⟨ttR s.b, s.bad || ttE s.b != 0⟩)
  | none => (zN, ⟨ttR s.b, true⟩)
def tlL (b : ByteArray) : List ByteArray := match takeL (kb b) with | some (l, _) => l | none => []
def tlR (b : ByteArray) : ByteArray := match takeL (kb b) with | some (_, r) => bk r | none => ⟨#[]⟩
def tlE (b : ByteArray) : Int := match takeL (kb b) with | some _ => 0 | none => 4
def dAts (s : DS) : List At × DS := if tlE s.b ≠ 0 ∨ (tlL s.b).length % 2 > 0 then ([], ⟨tlR s.b, true⟩) else (prs (tlL s.b), ⟨tlR s.b, s.bad⟩)
def dWay : Nat → DS → List Int × DS
  | 0, s => ([], s)
  | c + 1, s => if s.bad = true then ([], s) else ((dNum 300 s).1 :: (dWay c (dNum 300 s).2).1, (dWay c (dNum 300 s).2).2)
def dBody (k : Int) (w : List Int) (s : DS) : Ed × DS :=
  if s.bad = true then (⟨k, w, zN, zN⟩, s)
  else if k = 1 then (⟨k, w, zN, (dNode s).1⟩, (dNode s).2)
  else if k = 2 then (⟨k, w, (dNode s).1, zN⟩, (dNode s).2)
  else if k = 3 then (⟨k, w, { zN with attrs := (dAts s).1 }, { zN with attrs := (dAts (dAts s).2).1 }⟩, (dAts (dAts s).2).2)
  else if k = 4 then (⟨k, w, { zN with text := (dTxt s).1 }, { zN with text := (dTxt (dTxt s).2).1 }⟩, (dTxt (dTxt s).2).2)
  else (⟨k, w, zN, zN⟩, s)
def dEd (s : DS) : Ed × DS := dBody (dNum 4 s).1 (dWay (dNum 41 (dNum 4 s).2).1.toNat (dNum 41 (dNum 4 s).2).2).1 (dWay (dNum 41 (dNum 4 s).2).1.toNat (dNum 41 (dNum 4 s).2).2).2
def dEds : Nat → DS → List Ed × DS
  | 0, s => ([], s)
  | c + 1, s => if s.bad = true then ([], s) else ((dEd s).1 :: (dEds c (dEd s).2).1, (dEds c (dEd s).2).2)
def dDel (s : DS) : List Ed × DS := dEds (dNum 400 s).1.toNat (dNum 400 s).2
theorem tk_noneD {b : ByteArray} (h : takeN (kb b) = none) : tkE b ≠ 0 := by unfold tkE; rw [h]; decide
theorem tk_someD {b : ByteArray} {n : Nat} {r : List UInt8} (h : takeN (kb b) = some (n, r)) : tkE b = 0 ∧ tkN b = n ∧ tkR b = bk r := by unfold tkE tkN tkR; rw [h]; exact ⟨rfl, rfl, rfl⟩
theorem tt_noneD {b : ByteArray} (h : takeT (kb b) = none) : (ttE b != 0) = true := by unfold ttE; rw [h]; rfl
theorem tt_someD {b : ByteArray} {x r : List UInt8} (h : takeT (kb b) = some (x, r)) : ttE b = 0 ∧ ttS b = bk x ∧ ttR b = bk r := by unfold ttE ttS ttR; rw [h]; exact ⟨rfl, rfl, rfl⟩
theorem dNum_bad (m : Int) (b : ByteArray) : (dNum m ⟨b, true⟩).2.bad = true := by unfold dNum; split <;> rfl
theorem dNum_none {m : Int} {b : ByteArray} {e : Bool} (h : takeN (kb b) = none) : (dNum m ⟨b, e⟩).2.bad = true := by
  unfold dNum; rw [if_pos (.inl (tk_noneD h))]
theorem dNum_big {m : Int} {b : ByteArray} {e : Bool} {n : Nat} {r : List UInt8} (h : takeN (kb b) = some (n, r)) (hm : m < n) : (dNum m ⟨b, e⟩).2.bad = true := by
  have := (tk_someD h).2.1
  unfold dNum; rw [if_pos (.inr (by dsimp only; omega))]
theorem dNum_some {m : Int} {b : ByteArray} {e : Bool} {n : Nat} {r : List UInt8} (h : takeN (kb b) = some (n, r)) (hm : (n : Int) ≤ m) : dNum m ⟨b, e⟩ = ((n : Int), ⟨bk r, e⟩) := by
  obtain ⟨h1, h2, h3⟩ := tk_someD h
  unfold dNum; rw [if_neg (by dsimp only; omega)]
  dsimp only
  rw [h2, h3]
theorem dNum_rng {m : Int} (h : 0 ≤ m) (s : DS) : 0 ≤ (dNum m s).1 ∧ (dNum m s).1 ≤ m := by
  unfold dNum
  split
  · exact ⟨Int.le_refl _, h⟩
  · rename_i hq
    have h0 : 0 ≤ tkN s.b := by unfold tkN; split <;> omega
    dsimp only
    omega
theorem dNode_ok : RdOK pNode dNode := by
  refine ⟨fun b => ?_, fun b => ?_⟩
  · unfold dNode; split <;> rfl
  unfold pNode dNode
  cases h : takeT (kb b) with
  | none =>
    dsimp only
    rw [tt_noneD h]
    split <;> rfl
  | some p =>
    obtain ⟨x, r⟩ := p
    obtain ⟨h1, h2, h3⟩ := tt_someD h
    dsimp only
    rw [h1, h2, h3]
    cases rdOne (bk x) with
    | none => rfl
    | some n => rfl
theorem dAts_ok : RdOK pAts dAts := by
  refine ⟨fun b => ?_, fun b => ?_⟩
  · unfold dAts; split <;> rfl
  unfold pAts dAts tlE tlL tlR
  dsimp only
  cases h : takeL (kb b) with
  | none =>
    dsimp only
    rw [if_pos (.inl (by decide))]
  | some p =>
    obtain ⟨x, r⟩ := p
    dsimp only
    by_cases hx : x.length % 2 > 0
    · rw [if_pos hx, if_pos (.inr hx)]
    · rw [if_neg hx, if_neg (by rintro (h | h); exact h rfl; exact hx h)]
theorem dWay_ok : ∀ c, RdOK (pWay c) (dWay c)
  | 0 => ⟨fun b => rfl, fun b => by rw [pWay]; dsimp only; rw [dWay, bk_kb]⟩
  | c + 1 => by
    obtain ⟨g1, g2⟩ := dWay_ok c
    refine ⟨fun b => by rw [dWay, if_pos rfl], fun b => ?_⟩
    rw [pWay, dWay, if_neg (show ¬ (DS.mk b false).bad = true from Bool.false_ne_true)]
    cases h : takeN (kb b) with
    | none =>
      dsimp only
      have := dNum_none (m := 300) (e := false) h
      generalize dNum 300 ⟨b, false⟩ = q at this
      obtain ⟨v, b', e'⟩ := q
      dsimp only at this ⊢
      subst this
      exact g1 b'
    | some p =>
      obtain ⟨n, r⟩ := p
      dsimp only
      by_cases hn : n > 300
      · rw [if_pos hn]
        have := dNum_big (m := 300) (e := false) h (by omega)
        generalize dNum 300 ⟨b, false⟩ = q at this
        obtain ⟨v, b', e'⟩ := q
        dsimp only at this ⊢
        subst this
        exact g1 b'
      · rw [if_neg hn, dNum_some (m := 300) (e := false) h (by omega)]
        dsimp only
        have := g2 (bk r)
        rw [kb_bk] at this
        cases hq : pWay c r with
        | none => rw [hq] at this; exact this
        | some p =>
          obtain ⟨l, z⟩ := p
          rw [hq] at this
          dsimp only at this ⊢
          rw [this]
theorem dBody_ok (k : Nat) (w : List Int) : RdOK (pBody k w) (dBody k w) := by
  refine ⟨fun b => by unfold dBody; rw [if_pos rfl], fun b => ?_⟩
  unfold pBody dBody
  rw [if_neg (show ¬ (DS.mk b false).bad = true from Bool.false_ne_true)]
  by_cases e1 : k = 1
  · subst e1
    rw [if_pos rfl, if_pos (show ((1 : Nat) : Int) = 1 from rfl)]
    have := dNode_ok.2 b
    cases h : pNode (kb b) with
    | none => rw [h] at this; exact this
    | some p =>
      obtain ⟨n, r⟩ := p
      rw [h] at this
      dsimp only at this ⊢
      rw [this]
  rw [if_neg e1, if_neg (show ¬ (k : Int) = 1 by omega)]
  by_cases e2 : k = 2
  · subst e2
    rw [if_pos rfl, if_pos (show ((2 : Nat) : Int) = 2 from rfl)]
    have := dNode_ok.2 b
    cases h : pNode (kb b) with
    | none => rw [h] at this; exact this
    | some p =>
      obtain ⟨n, r⟩ := p
      rw [h] at this
      dsimp only at this ⊢
      rw [this]
  rw [if_neg e2, if_neg (show ¬ (k : Int) = 2 by omega)]
  by_cases e3 : k = 3
  · subst e3
    rw [if_pos rfl, if_pos (show ((3 : Nat) : Int) = 3 from rfl)]
    have := dAts_ok.2 b
    cases h : pAts (kb b) with
    | none =>
      rw [h] at this
      dsimp only at this ⊢
      generalize dAts ⟨b, false⟩ = q at this
      obtain ⟨v, b', e'⟩ := q
      dsimp only at this ⊢
      subst this
      exact dAts_ok.1 b'
    | some p =>
      obtain ⟨l, r⟩ := p
      rw [h] at this
      dsimp only at this ⊢
      rw [this]
      dsimp only
      have h2 := dAts_ok.2 (bk r)
      rw [kb_bk] at h2
      cases hq : pAts r with
      | none => rw [hq] at h2; exact h2
      | some p =>
        obtain ⟨l2, z⟩ := p
        rw [hq] at h2
        dsimp only at h2 ⊢
        rw [h2]
  rw [if_neg e3, if_neg (show ¬ (k : Int) = 3 by omega)]
  by_cases e4 : k = 4
  · subst e4
    rw [if_pos rfl, if_pos (show ((4 : Nat) : Int) = 4 from rfl)]
    unfold dTxt
    dsimp only
    cases h : takeT (kb b) with
    | none =>
      dsimp only
      rw [tt_noneD h]; rfl
    | some p =>
      obtain ⟨x, r⟩ := p
      obtain ⟨h1, h2, h3⟩ := tt_someD h
      dsimp only
      rw [h1, h2, h3]
      cases hq : takeT r with
      | none =>
        dsimp only
        rw [tt_noneD (b := bk r) (by rw [kb_bk]; exact hq), Bool.or_true]
      | some p =>
        obtain ⟨y, z⟩ := p
        obtain ⟨q1, q2, q3⟩ := tt_someD (b := bk r) (by rw [kb_bk]; exact hq)
        dsimp only
        rw [q1, q2, q3]; rfl
  rw [if_neg e4, if_neg (show ¬ (k : Int) = 4 by omega)]
  dsimp only
  rw [bk_kb]
theorem dBad {α β : Type} {f : DS → α × DS} (g : ∀ b, (f ⟨b, true⟩).2.bad = true) {q : β × DS} (h : q.2.bad = true) : (f q.2).2.bad = true := by
  obtain ⟨v, b, e⟩ := q
  dsimp only at h ⊢
  subst h
  exact g b
theorem dEd_ok : RdOK pEd dEd := by
  have key : ∀ q : Int × DS, q.2.bad = true → (dBody q.1 (dWay (dNum 41 q.2).1.toNat (dNum 41 q.2).2).1 (dWay (dNum 41 q.2).1.toNat (dNum 41 q.2).2).2).2.bad = true := fun q h => by
    have h1 := dBad (f := dNum 41) (dNum_bad 41) h
    have h2 := dBad (f := dWay (dNum 41 q.2).1.toNat) (dWay_ok _).1 h1
    unfold dBody
    rw [if_pos h2]; exact h2
  have key2 : ∀ (v : Int) (q : Int × DS), q.2.bad = true → (dBody v (dWay q.1.toNat q.2).1 (dWay q.1.toNat q.2).2).2.bad = true := fun v q h => by
    have h2 := dBad (f := dWay q.1.toNat) (dWay_ok _).1 h
    unfold dBody
    rw [if_pos h2]; exact h2
  refine ⟨fun b => key _ (dNum_bad 4 b), fun b => ?_⟩
  unfold pEd dEd
  cases h : takeN (kb b) with
  | none => exact key _ (dNum_none h)
  | some p =>
    obtain ⟨k, r⟩ := p
    dsimp only
    by_cases hk : k > 4
    · have q := key _ (dNum_big (m := 4) (e := false) h (by omega))
      cases h1 : takeN r with
      | none => exact q
      | some p =>
        obtain ⟨c, r1⟩ := p
        dsimp only
        rw [if_pos (.inl hk)]
        exact q
    rw [dNum_some (m := 4) (e := false) h (by omega)]
    dsimp only
    cases h1 : takeN r with
    | none => exact key2 _ _ (dNum_none (b := bk r) (by rw [kb_bk]; exact h1))
    | some p =>
      obtain ⟨c, r1⟩ := p
      dsimp only
      by_cases hc : c > 41
      · rw [if_pos (.inr hc)]
        exact key2 _ _ (dNum_big (b := bk r) (by rw [kb_bk]; exact h1) (by omega))
      rw [if_neg (by omega), dNum_some (m := 41) (e := false) (b := bk r) (by rw [kb_bk]; exact h1) (by omega)]
      dsimp only
      rw [Int.toNat_natCast]
      have hw := (dWay_ok c).2 (bk r1)
      rw [kb_bk] at hw
      cases h2 : pWay c r1 with
      | none =>
        rw [h2] at hw
        dsimp only at hw ⊢
        unfold dBody
        rw [if_pos hw]; exact hw
      | some p =>
        obtain ⟨w, r2⟩ := p
        rw [h2] at hw
        dsimp only at hw ⊢
        rw [hw]
        dsimp only
        have := (dBody_ok k w).2 (bk r2)
        rw [kb_bk] at this
        exact this
theorem dEds_ok : ∀ c, RdOK (pEds c) (dEds c)
  | 0 => ⟨fun b => rfl, fun b => by rw [pEds]; dsimp only; rw [dEds, bk_kb]⟩
  | c + 1 => by
    obtain ⟨g1, g2⟩ := dEds_ok c
    refine ⟨fun b => by rw [dEds, if_pos rfl], fun b => ?_⟩
    rw [pEds, dEds, if_neg (show ¬ (DS.mk b false).bad = true from Bool.false_ne_true)]
    have he := dEd_ok.2 b
    cases h : pEd (kb b) with
    | none =>
      rw [h] at he
      exact dBad g1 he
    | some p =>
      obtain ⟨x, r⟩ := p
      rw [h] at he
      dsimp only at he ⊢
      rw [he]
      dsimp only
      have := g2 (bk r)
      rw [kb_bk] at this
      cases hq : pEds c r with
      | none => rw [hq] at this; exact this
      | some p =>
        obtain ⟨l, z⟩ := p
        rw [hq] at this
        dsimp only at this ⊢
        rw [this]
theorem dDel_ok : RdOK pDel dDel := by
  refine ⟨fun b => dBad (f := dEds _) (dEds_ok _).1 (dNum_bad 400 b), fun b => ?_⟩
  unfold pDel dDel
  cases h : takeN (kb b) with
  | none => exact dBad (f := dEds _) (dEds_ok _).1 (dNum_none h)
  | some p =>
    obtain ⟨n, r⟩ := p
    dsimp only
    by_cases hn : n > 400
    · rw [if_pos hn]
      exact dBad (f := dEds _) (dEds_ok _).1 (dNum_big h (by omega))
    rw [if_neg hn, dNum_some (m := 400) (e := false) h (by omega)]
    dsimp only
    rw [Int.toNat_natCast]
    have := (dEds_ok n).2 (bk r)
    rw [kb_bk] at this
    exact this
end Go.Proofs.YtnhipiedjekkpaaGreatDoor.AXP
end
section
namespace Go.Proofs.YtnhipiedjekkpaaGreatDoor.AXP
open Go Go.Proofs.YtnhipiedjekkpaaGreatDoor.AX
/-- Equal edits. -/
def eqEd (x y : Ed) : Bool := x.what == y.what && eql eqI x.way y.way && eqNd x.old y.old && eqNd x.new y.new
end Go.Proofs.YtnhipiedjekkpaaGreatDoor.AXP
namespace Go.Proofs.YtnhipiedjekkpaaGreatDoor.AX
open Go AXP
def sumEql (t : Ty) (f : den t → den t → Bool) (a b c : List (den t)) (m i : Int) (K : Ex → List AV → List Blk → Prop) : Prop :=
  Rq (c = a ∧ m = a.length ∧ i = 0 ∧ a.length = b.length ∧ a.length ≤ maxSl) (Br (eql f a b) (K (.exit 0) [.any] []) (K .ret [.bool false] []))
def lsEqIts : LS where
  keep := [(0, .as), (1, .as), (12, .as), (13, .as)]
  left := [(4, .as)]
  sum := fun vs bs K => match vs, bs with
    | [.row .int a, .row .int b, .int .i64 m, .int .i64 i], [] => sumEql .int eqI a b a m i K
    | _, _ => False
def lsEqAts : LS where
  keep := [(0, .as), (1, .as), (12, .as), (13, .as)]
  left := [(4, .as)]
  sum := fun vs bs K => match vs, bs with
    | [.row .attr a, .row .attr b, .int .i64 m, .int .i64 i], [] => sumEql .attr eqAt a b a m i K
    | _, _ => False
def lsEqfAts : LS where
  keep := [(1, .as), (2, .as), (15, .as), (16, .as), (17, .as)]
  left := [(6, .as)]
  sum := fun vs bs K => match vs, bs with
    | [.row .attr b, .fn f [], .row .attr a, .int .i64 m, .int .i64 i], [] => Rq (f = 96) (sumEql .attr eqAt a b a m i K)
    | _, _ => False
noncomputable def lsEqfNds (k : Nat) : LS where
  keep := [(1, .as), (2, .as), (15, .as), (16, .as), (17, .as)]
  left := [(6, .as)]
  sum := fun vs bs K => match vs, bs with
    | [.row .node b, .fn f [], .row .node a, .int .i64 m, .int .i64 i], [] => Rq (f = 94 ∧ szNds a < k + 1) (sumEql .node eqNd a b a m i K)
    | _, _ => False
def lsEqfEds : LS where
  keep := [(1, .as), (2, .as), (15, .as), (16, .as), (17, .as)]
  left := [(6, .as)]
  sum := fun vs bs K => match vs, bs with
    | [.row .edit b, .fn f [], .row .edit a, .int .i64 m, .int .i64 i], [] => Rq (f = 39) (sumEql .edit eqEd a b a m i K)
    | _, _ => False
def conEqIts : Con := conP [.row .int, .row .int] fun (a b : List Int) => { res := .bool (eql eqI a b) }
def conEqAts : Con := conP [.row .attr, .row .attr] fun (a b : List At) => { res := .bool (eql eqAt a b) }
def conAtEq : Con := conP [.agg .attr, .agg .attr] fun (a b : At) => { res := .bool (eqAt a b) }
def conEqfAts : Con := conP [.row .attr, .row .attr, .fn 96] fun (a b : List At) _ => { res := .bool (eql eqAt a b) }
noncomputable def conSameLt (k : Nat) : Con := conP [.row .node, .row .node] fun (a b : List Nd) => { pre := some (szNds a < k), res := .bool (eql eqNd a b) }
noncomputable def conSame1 (k : Nat) : Con := conP [.agg .node, .agg .node] fun (a b : Nd) => { pre := some (szNds a.kids < k), res := .bool (eqNd a b) }
noncomputable def conEqfNds (k : Nat) : Con := conP [.row .node, .row .node, .fn 94] fun (a b : List Nd) _ => { pre := some (szNds a < k + 1), res := .bool (eql eqNd a b) }
def conSame : Con := conP [.row .node, .row .node] fun (a b : List Nd) => { res := .bool (eql eqNd a b) }
def conEdSame1 : Con := conP [.agg .node, .agg .node] fun (a b : Nd) => { res := .bool (eqNd a b) }
def conEdSameF : Con := conP [.agg .edit, .agg .edit] fun (a b : Ed) => { res := .bool (eqEd a b) }
def conEqfEds : Con := conP [.row .edit, .row .edit, .fn 39] fun (a b : List Ed) _ => { res := .bool (eql eqEd a b) }
def conEdSame : Con := conP [.row .edit, .row .edit] fun (a b : List Ed) => { res := .bool (eql eqEd a b) }
noncomputable def cxEqfAts : Cx := cxT (tabLook [(96, conAtEq)])
noncomputable def cxSame1 (k : Nat) : Cx := cxT (tabLook [(95, conEqfAts), (76, conSameLt k)])
noncomputable def cxEqfNds (k : Nat) : Cx := cxT (tabLook [(94, conSame1 k)])
noncomputable def cxSame (k : Nat) : Cx := cxT (tabLook [(93, conEqfNds k)])
noncomputable def cxEdSame1 : Cx := cxT (tabLook [(76, conSame)])
noncomputable def cxEdSameF : Cx := cxT (tabLook [(40, conEqIts), (41, conEdSame1)])
noncomputable def cxEqfEds : Cx := cxT (tabLook [(39, conEdSameF)])
noncomputable def cxEdSame : Cx := cxT (tabLook [(38, conEqfEds)])
end Go.Proofs.YtnhipiedjekkpaaGreatDoor.AX
end
section
namespace Go.Proofs.YtnhipiedjekkpaaGreatDoor.AX
open Go AXP
set_option maxRecDepth 100000
theorem vcEqItsB (a b : List Int) (i m : Int) (K : Ex → List AV → List Blk → Prop) : (bodyA cx0 (LL Tryz.f40 [lsEqIts]) Tryz.f40.ntmps (loopAt Tryz.f40 0).1 (loopAt Tryz.f40 0).2 lsEqIts.keep lsEqIts.left K [.row .int a, .row .int b, .int .i64 m, .int .i64 i] []) = (
Br (decide (i < m))
  (Rq ((0 : Int) ≤ i ∧ i < (↑a.length : Int))
    (Rq ((0 : Int) ≤ i ∧ i < (↑b.length : Int))
      (Br (rd Ty.int a i != rd Ty.int b i) (K Ex.ret [AV.bool false] [])
        (K Ex.norm
          [AV.row Ty.int a, AV.row Ty.int b, AV.int IntKind.i64 m,
            AV.int IntKind.i64 (IntKind.i64.wrap (i + (1 : Int)))]
          []))))
  (K (Ex.exit (0 : Nat)) [AV.any] [])) := by kernel_rfl
theorem vcEqItsF (a b : List Int) (Q : List AV → List Blk → List Blk → Prop) : (funA cx0 (LL Tryz.f40 [lsEqIts]) Tryz.f40 [.row .int a, .row .int b] [] [] Q) = (
Gv (a.length ≤ maxSl)
  (Gv (b.length ≤ maxSl)
    (Br ((↑a.length : Int) != (↑b.length : Int)) (Q [AV.bool false] [] [])
      (Gv (a.length ≤ maxSl)
        (Rq
          (a = a ∧
            (↑a.length : Int) = (↑a.length : Int) ∧ (0 : Int) = (0 : Int) ∧ a.length = b.length ∧ a.length ≤ maxSl)
          (Br (eql eqI a b) (Q [AV.bool true] [] []) (Q [AV.bool false] [] []))))))) := by kernel_rfl
theorem vcAtEqF (a b : At) (Q : List AV → List Blk → List Blk → Prop) : (funA cx0 (LL Tryz.f96 []) Tryz.f96 [.agg (leaves .attr a), .agg (leaves .attr b)] [] [] Q) = (
Q [AV.bool (eqS a.1 b.1 && eqS a.2 b.2)] [] []) := by kernel_rfl
theorem vcEqfAtsB (a b : List At) (i m : Int) (K : Ex → List AV → List Blk → Prop) : (bodyA cxEqfAts (LL Tryz.f95 [lsEqfAts]) Tryz.f95.ntmps (loopAt Tryz.f95 0).1 (loopAt Tryz.f95 0).2 lsEqfAts.keep lsEqfAts.left K [.row .attr b, .fn 96 [], .row .attr a, .int .i64 m, .int .i64 i] []) = (
Br (decide (i < m))
  (Rq ((0 : Int) ≤ i ∧ i < (↑a.length : Int))
    (Rq ((0 : Int) ≤ i ∧ i < (↑b.length : Int))
      (Br (!eqAt (At.mk (rd Ty.attr a i).1 (rd Ty.attr a i).2) (At.mk (rd Ty.attr b i).1 (rd Ty.attr b i).2))
        (K Ex.ret [AV.bool false] [])
        (K Ex.norm
          [AV.row Ty.attr b, AV.fn 96 [], AV.row Ty.attr a, AV.int IntKind.i64 m,
            AV.int IntKind.i64 (IntKind.i64.wrap (i + (1 : Int)))]
          []))))
  (K (Ex.exit (0 : Nat)) [AV.any] [])) := by kernel_rfl
theorem vcEqfAtsF (a b : List At) (Q : List AV → List Blk → List Blk → Prop) : (funA cxEqfAts (LL Tryz.f95 [lsEqfAts]) Tryz.f95 [.row .attr a, .row .attr b, .fn 96 []] [] [] Q) = (
Gv (a.length ≤ maxSl)
  (Gv (b.length ≤ maxSl)
    (Br ((↑a.length : Int) != (↑b.length : Int)) (Q [AV.bool false] [] [])
      (Gv (a.length ≤ maxSl)
        (Rq ((96 : Nat) = (96 : Nat))
          (Rq
            (a = a ∧
              (↑a.length : Int) = (↑a.length : Int) ∧ (0 : Int) = (0 : Int) ∧ a.length = b.length ∧ a.length ≤ maxSl)
            (Br (eql eqAt a b) (Q [AV.bool true] [] []) (Q [AV.bool false] [] [])))))))) := by kernel_rfl
theorem vcEqfNdsB (k : Nat) (a b : List Nd) (i m : Int) (K : Ex → List AV → List Blk → Prop) : (bodyA (cxEqfNds k) (LL Tryz.f93 [lsEqfNds k]) Tryz.f93.ntmps (loopAt Tryz.f93 0).1 (loopAt Tryz.f93 0).2 (lsEqfNds k).keep (lsEqfNds k).left K [.row .node b, .fn 94 [], .row .node a, .int .i64 m, .int .i64 i] []) = (
Br (decide (i < m))
  (Rq ((0 : Int) ≤ i ∧ i < (↑a.length : Int))
    (Rq ((0 : Int) ≤ i ∧ i < (↑b.length : Int))
      (Rq (szNds (rd Ty.node a i).6 < k)
        (Br
          (!eqNd
              (Nd.mk (rd Ty.node a i).1 (rd Ty.node a i).2 (rd Ty.node a i).3 (rd Ty.node a i).4 (rd Ty.node a i).5
                (rd Ty.node a i).6)
              (Nd.mk (rd Ty.node b i).1 (rd Ty.node b i).2 (rd Ty.node b i).3 (rd Ty.node b i).4 (rd Ty.node b i).5
                (rd Ty.node b i).6))
          (K Ex.ret [AV.bool false] [])
          (K Ex.norm
            [AV.row Ty.node b, AV.fn 94 [], AV.row Ty.node a, AV.int IntKind.i64 m,
              AV.int IntKind.i64 (IntKind.i64.wrap (i + (1 : Int)))]
            [])))))
  (K (Ex.exit (0 : Nat)) [AV.any] [])) := by kernel_rfl
theorem vcEqfNdsF (k : Nat) (a b : List Nd) (Q : List AV → List Blk → List Blk → Prop) : (funA (cxEqfNds k) (LL Tryz.f93 [lsEqfNds k]) Tryz.f93 [.row .node a, .row .node b, .fn 94 []] [] [] Q) = (
Gv (a.length ≤ maxSl)
  (Gv (b.length ≤ maxSl)
    (Br ((↑a.length : Int) != (↑b.length : Int)) (Q [AV.bool false] [] [])
      (Gv (a.length ≤ maxSl)
        (Rq ((94 : Nat) = (94 : Nat) ∧ szNds a < k + (1 : Nat))
          (Rq
            (a = a ∧
              (↑a.length : Int) = (↑a.length : Int) ∧ (0 : Int) = (0 : Int) ∧ a.length = b.length ∧ a.length ≤ maxSl)
            (Br (eql eqNd a b) (Q [AV.bool true] [] []) (Q [AV.bool false] [] [])))))))) := by kernel_rfl
theorem vcEqfEdsB (a b : List Ed) (i m : Int) (K : Ex → List AV → List Blk → Prop) : (bodyA cxEqfEds (LL Tryz.f38 [lsEqfEds]) Tryz.f38.ntmps (loopAt Tryz.f38 0).1 (loopAt Tryz.f38 0).2 lsEqfEds.keep lsEqfEds.left K [.row .edit b, .fn 39 [], .row .edit a, .int .i64 m, .int .i64 i] []) = (
Br (decide (i < m))
  (Rq ((0 : Int) ≤ i ∧ i < (↑a.length : Int))
    (Rq ((0 : Int) ≤ i ∧ i < (↑b.length : Int))
      (Br
        (!eqEd
            (Ed.mk (rd Ty.edit a i).1 (rd Ty.edit a i).2
              (Nd.mk (rd Ty.edit a i).old.1 (rd Ty.edit a i).old.2 (rd Ty.edit a i).old.3 (rd Ty.edit a i).old.4
                (rd Ty.edit a i).old.5 (rd Ty.edit a i).old.6)
              (Nd.mk (rd Ty.edit a i).new.1 (rd Ty.edit a i).new.2 (rd Ty.edit a i).new.3 (rd Ty.edit a i).new.4
                (rd Ty.edit a i).new.5 (rd Ty.edit a i).new.6))
            (Ed.mk (rd Ty.edit b i).1 (rd Ty.edit b i).2
              (Nd.mk (rd Ty.edit b i).old.1 (rd Ty.edit b i).old.2 (rd Ty.edit b i).old.3 (rd Ty.edit b i).old.4
                (rd Ty.edit b i).old.5 (rd Ty.edit b i).old.6)
              (Nd.mk (rd Ty.edit b i).new.1 (rd Ty.edit b i).new.2 (rd Ty.edit b i).new.3 (rd Ty.edit b i).new.4
                (rd Ty.edit b i).new.5 (rd Ty.edit b i).new.6)))
        (K Ex.ret [AV.bool false] [])
        (K Ex.norm
          [AV.row Ty.edit b, AV.fn 39 [], AV.row Ty.edit a, AV.int IntKind.i64 m,
            AV.int IntKind.i64 (IntKind.i64.wrap (i + (1 : Int)))]
          []))))
  (K (Ex.exit (0 : Nat)) [AV.any] [])) := by kernel_rfl
theorem vcEqfEdsF (a b : List Ed) (Q : List AV → List Blk → List Blk → Prop) : (funA cxEqfEds (LL Tryz.f38 [lsEqfEds]) Tryz.f38 [.row .edit a, .row .edit b, .fn 39 []] [] [] Q) = (
Gv (a.length ≤ maxSl)
  (Gv (b.length ≤ maxSl)
    (Br ((↑a.length : Int) != (↑b.length : Int)) (Q [AV.bool false] [] [])
      (Gv (a.length ≤ maxSl)
        (Rq ((39 : Nat) = (39 : Nat))
          (Rq
            (a = a ∧
              (↑a.length : Int) = (↑a.length : Int) ∧ (0 : Int) = (0 : Int) ∧ a.length = b.length ∧ a.length ≤ maxSl)
            (Br (eql eqEd a b) (Q [AV.bool true] [] []) (Q [AV.bool false] [] [])))))))) := by kernel_rfl
theorem vcSame1F (k : Nat) (a b : Nd) (Q : List AV → List Blk → List Blk → Prop) : (funA (cxSame1 k) (LL Tryz.f94 []) Tryz.f94 [.agg (leaves .node a), .agg (leaves .node b)] [] [] Q) = (
Br (a.1 == b.1)
  (Br (a.2 == b.2)
    (Br (eqS a.3 b.3)
      (Br (eqS a.5 b.5)
        (Br (eql eqAt a.4 b.4) (Rq (szNds a.6 < k) (Q [AV.bool (eql eqNd a.6 b.6)] [] [])) (Q [AV.bool false] [] []))
        (Q [AV.bool false] [] []))
      (Q [AV.bool false] [] []))
    (Q [AV.bool false] [] []))
  (Q [AV.bool false] [] [])) := by kernel_rfl
theorem vcSameF (k : Nat) (a b : List Nd) (Q : List AV → List Blk → List Blk → Prop) : (funA (cxSame k) (LL Tryz.f76 []) Tryz.f76 [.row .node a, .row .node b] [] [] Q) = (
Rq (szNds a < k + (1 : Nat)) (Q [AV.bool (eql eqNd a b)] [] [])) := by kernel_rfl
theorem vcEdSame1F (a b : Nd) (Q : List AV → List Blk → List Blk → Prop) : (funA cxEdSame1 (LL Tryz.f41 []) Tryz.f41 [.agg (leaves .node a), .agg (leaves .node b)] [] [] Q) = (
Q [AV.bool (eql eqNd [Nd.mk a.1 a.2 a.3 a.4 a.5 a.6] [Nd.mk b.1 b.2 b.3 b.4 b.5 b.6])] [] []) := by kernel_rfl
theorem vcEdSameFF (a b : Ed) (Q : List AV → List Blk → List Blk → Prop) : (funA cxEdSameF (LL Tryz.f39 []) Tryz.f39 [.agg (leaves .edit a), .agg (leaves .edit b)] [] [] Q) = (
Br (a.1 == b.1)
  (Br (eql eqI a.2 b.2)
    (Br
      (eqNd (Nd.mk a.old.1 a.old.2 a.old.3 a.old.4 a.old.5 a.old.6)
        (Nd.mk b.old.1 b.old.2 b.old.3 b.old.4 b.old.5 b.old.6))
      (Q
        [AV.bool
            (eqNd (Nd.mk a.new.1 a.new.2 a.new.3 a.new.4 a.new.5 a.new.6)
              (Nd.mk b.new.1 b.new.2 b.new.3 b.new.4 b.new.5 b.new.6))]
        [] [])
      (Q [AV.bool false] [] []))
    (Q [AV.bool false] [] []))
  (Q [AV.bool false] [] [])) := by kernel_rfl
theorem vcEdSameF (a b : List Ed) (Q : List AV → List Blk → List Blk → Prop) : (funA cxEdSame (LL Tryz.f18 []) Tryz.f18 [.row .edit a, .row .edit b] [] [] Q) = (
Q [AV.bool (eql eqEd a b)] [] []) := by kernel_rfl
end Go.Proofs.YtnhipiedjekkpaaGreatDoor.AX
end
section
namespace Go.Proofs.YtnhipiedjekkpaaGreatDoor.AX
open Go AXP
theorem toEd_le {x : List AV} {n : Ed} (h : toEd x = some n) : AVle (.agg x) (.agg (editL n)) := fun w O I v hv => by
  obtain ⟨cs, rfl, hall⟩ := hv
  exact ⟨cs, rfl, toEd_R hall h⟩
theorem ed_eta (x : Ed) : Ed.mk x.1 x.2 (Nd.mk x.old.1 x.old.2 x.old.3 x.old.4 x.old.5 x.old.6) (Nd.mk x.new.1 x.new.2 x.new.3 x.new.4 x.new.5 x.new.6) = x := by
  obtain ⟨_, _, ⟨⟩, ⟨⟩⟩ := x; rfl
theorem rd_ed {a : List Ed} {i : Nat} (h : i < a.length) : rd .edit a (i : Int) = a[i] := rd_get (t := .edit) h
end Go.Proofs.YtnhipiedjekkpaaGreatDoor.AX
end
section
namespace Go.Proofs.YtnhipiedjekkpaaGreatDoor.AX
open Go AXP
set_option maxRecDepth 100000
theorem at_eta (x : At) : At.mk x.1 x.2 = x := rfl
theorem rd_int {a : List Int} {i : Nat} (h : i < a.length) : rd .int a (i : Int) = a[i] := rd_get (t := .int) h
theorem eql_drop {α : Type} {f : α → α → Bool} {a b : List α} {i : Nat} (ha : i < a.length) (hb : i < b.length) : eql f (a.drop i) (b.drop i) = (f a[i] b[i] && eql f (a.drop (i + 1)) (b.drop (i + 1))) := by
  rw [List.drop_eq_getElem_cons ha, List.drop_eq_getElem_cons hb]; rfl
theorem eql_len {α : Type} {f : α → α → Bool} : ∀ {a b : List α}, a.length ≠ b.length → eql f a b = false
  | [], [], h => (h rfl).elim
  | [], _ :: _, _ => rfl
  | _ :: _, [], _ => rfl
  | x :: a, y :: b, h => by rw [eql, eql_len (a := a) (b := b) (by simpa using h), Bool.and_false]
/-- The rounds of such a loop. -/
theorem eql_sum {cx : Cx} {L : Loops} {n bl : Nat} {c : Code} {keep left : List (Tmp × Want)} {t : Ty} {f : den t → den t → Bool} {a b : List (den t)} {K : Ex → List AV → List Blk → Prop} (st : Nat → List AV) (hl : a.length = b.length)
    (hb : ∀ (i : Nat) (h : i < a.length) (h' : i < b.length), ∀ R : List AV → List Blk → Prop, (f a[i] b[i] = false → K .ret [.bool false] []) → (f a[i] b[i] = true → R (st (i + 1)) []) → bodyA cx L n bl c keep left (rk K R) (st i) [])
    (he : ∀ R, K (.exit 0) [.any] [] → bodyA cx L n bl c keep left (rk K R) (st a.length) [])
    (h : Br (eql f a b) (K (.exit 0) [.any] []) (K .ret [.bool false] [])) : ∃ m, roundsA cx L n bl c keep left K m (st 0) [] := by
  refine sum_for (fun i => eql f a b = eql f (a.drop i) (b.drop i)) st (fun _ => []) a.length (fun i hi hp R hR => ?_) (fun hp R => ?_) (by simp)
  · have hd := eql_drop (f := f) hi (by omega : i < b.length)
    refine hb i hi (by omega) R (fun h1 => h.no ?_) (fun h1 => hR ?_)
    · rw [hp, hd, h1, Bool.false_and]
    · rw [hp, hd, h1, Bool.true_and]
  · refine he R (h.yes ?_)
    rw [hp, List.drop_length, hl, List.drop_length]; rfl
theorem ret_false {a : Bool} (h : (!a) = true) : a = false := by simpa using h
theorem ret_true {a : Bool} (h : (!a) = false) : a = true := by simpa using h
theorem eqIts_sum : SumOK cx0 (LL Tryz.f40 [lsEqIts]) Tryz.f40.ntmps (loopAt Tryz.f40 0).1 (loopAt Tryz.f40 0).2 lsEqIts := by
  intro vs bs K hs
  unfold lsEqIts at hs
  simp only at hs
  split at hs
  case h_2 => exact hs.elim
  rename_i a b m i
  obtain ⟨⟨_, rfl, rfl, hl, hm⟩, h⟩ := hs
  refine eql_sum (t := .int) (fun i => [.row .int a, .row .int b, .int .i64 a.length, .int .i64 i]) hl (fun i hi hi' R h1 h2 => ?_) (fun R h1 => ?_) h
  · refine Eq.mpr (vcEqItsB a b i a.length _) ⟨fun _ => ⟨⟨by omega, by omega⟩, ⟨⟨by omega, by omega⟩, ?_⟩⟩, fun h => lt_of h hi⟩
    rw [rd_int hi, rd_int hi', wrap_succ hi hm]
    exact ⟨fun h => h1 (by simpa [eqI] using h), fun h => h2 (by simpa [eqI] using h)⟩
  · exact Eq.mpr (vcEqItsB a b a.length a.length _) ⟨fun h => not_lt_self h, fun _ => h1⟩
theorem eqfAts_sum : SumOK cxEqfAts (LL Tryz.f95 [lsEqfAts]) Tryz.f95.ntmps (loopAt Tryz.f95 0).1 (loopAt Tryz.f95 0).2 lsEqfAts := by
  intro vs bs K hs
  unfold lsEqfAts at hs
  simp only at hs
  split at hs
  case h_2 => exact hs.elim
  rename_i b f a m i
  obtain ⟨rfl, ⟨_, rfl, rfl, hl, hm⟩, h⟩ := hs
  refine eql_sum (t := .attr) (fun i => [.row .attr b, .fn 96 [], .row .attr a, .int .i64 a.length, .int .i64 i]) hl (fun i hi hi' R h1 h2 => ?_) (fun R h1 => ?_) h
  · refine Eq.mpr (vcEqfAtsB a b i a.length _) ⟨fun _ => ⟨⟨by omega, by omega⟩, ⟨⟨by omega, by omega⟩, ?_⟩⟩, fun h => lt_of h hi⟩
    rw [rd_at hi, rd_at hi', wrap_succ hi hm]
    exact ⟨fun h => h1 (by simpa using h), fun h => h2 (by simpa using h)⟩
  · exact Eq.mpr (vcEqfAtsB a b a.length a.length _) ⟨fun h => not_lt_self h, fun _ => h1⟩
theorem eqfNds_sum (k : Nat) : SumOK (cxEqfNds k) (LL Tryz.f93 [lsEqfNds k]) Tryz.f93.ntmps (loopAt Tryz.f93 0).1 (loopAt Tryz.f93 0).2 (lsEqfNds k) := by
  intro vs bs K hs
  unfold lsEqfNds at hs
  simp only at hs
  split at hs
  case h_2 => exact hs.elim
  rename_i b f a m i
  obtain ⟨⟨rfl, hk⟩, ⟨_, rfl, rfl, hl, hm⟩, h⟩ := hs
  refine eql_sum (t := .node) (fun i => [.row .node b, .fn 94 [], .row .node a, .int .i64 a.length, .int .i64 i]) hl (fun i hi hi' R h1 h2 => ?_) (fun R h1 => ?_) h
  · refine Eq.mpr (vcEqfNdsB k a b i a.length _) ⟨fun _ => ⟨⟨by omega, by omega⟩, ⟨⟨by omega, by omega⟩, ?_⟩⟩, fun h => lt_of h hi⟩
    rw [rd_nd hi, rd_nd hi', wrap_succ hi hm, nd_eta, nd_eta]
    exact ⟨Nat.lt_of_lt_of_le (szNds_kids hi) (Nat.le_of_lt_succ hk), ⟨fun h => h1 (by simpa using h), fun h => h2 (by simpa using h)⟩⟩
  · exact Eq.mpr (vcEqfNdsB k a b a.length a.length _) ⟨fun h => not_lt_self h, fun _ => h1⟩
theorem eqfEds_sum : SumOK cxEqfEds (LL Tryz.f38 [lsEqfEds]) Tryz.f38.ntmps (loopAt Tryz.f38 0).1 (loopAt Tryz.f38 0).2 lsEqfEds := by
  intro vs bs K hs
  unfold lsEqfEds at hs
  simp only at hs
  split at hs
  case h_2 => exact hs.elim
  rename_i b f a m i
  obtain ⟨rfl, ⟨_, rfl, rfl, hl, hm⟩, h⟩ := hs
  refine eql_sum (t := .edit) (fun i => [.row .edit b, .fn 39 [], .row .edit a, .int .i64 a.length, .int .i64 i]) hl (fun i hi hi' R h1 h2 => ?_) (fun R h1 => ?_) h
  · refine Eq.mpr (vcEqfEdsB a b i a.length _) ⟨fun _ => ⟨⟨by omega, by omega⟩, ⟨⟨by omega, by omega⟩, ?_⟩⟩, fun h => lt_of h hi⟩
    rw [rd_ed hi, rd_ed hi', wrap_succ hi hm, ed_eta, ed_eta]
    exact ⟨fun h => h1 (by simpa using h), fun h => h2 (by simpa using h)⟩
  · exact Eq.mpr (vcEqfEdsB a b a.length a.length _) ⟨fun h => not_lt_self h, fun _ => h1⟩
/-- Such a function's text. -/
theorem eql_fun {t : Ty} {f : den t → den t → Bool} {a b : List (den t)} {Q : List AV → List Blk → List Blk → Prop} (X : Prop) (hX : X) (hQ : Q [AV.bool (eql f a b)] [] []) : Gv (a.length ≤ maxSl) (Gv (b.length ≤ maxSl) (Br ((a.length : Int) != (b.length : Int)) (Q [AV.bool false] [] [])
    (Gv (a.length ≤ maxSl) (Rq X (Rq (a = a ∧ (a.length : Int) = a.length ∧ (0 : Int) = 0 ∧ a.length = b.length ∧ a.length ≤ maxSl) (Br (eql f a b) (Q [AV.bool true] [] []) (Q [AV.bool false] [] []))))))) := by
  refine ⟨fun h1 => ⟨fun h2 => ⟨fun h3 => ?_, fun h3 => ⟨fun _ => ⟨hX, ⟨⟨rfl, rfl, rfl, ?_, h1⟩, ⟨fun h4 => ?_, fun h4 => ?_⟩⟩⟩⟩⟩⟩⟩
  · rw [eql_len (fun e => by simp [e] at h3)] at hQ; exact hQ
  · have h3 : (a.length : Int) = b.length := by simpa using h3
    omega
  · rw [h4] at hQ; exact hQ
  · rw [h4] at hQ; exact hQ
theorem eqIts_holds : Holds 40 conEqIts := conP_holds fun a b => by
  refine fun_meets1 tok0 [] lsEqIts (by kernel_rfl) (by kernel_rfl) eqIts_sum fun hpre => Eq.mpr (vcEqItsF a b _) ?_
  have := eql_fun (t := .int) (f := eqI) (a := a) (b := b) (Q := FinQ { res := .bool (eql eqI a b) }) True trivial (qfin rfl rfl rfl rfl)
  exact ⟨fun h1 => ⟨fun h2 => ⟨((this.on h1).on h2).yes, fun h3 => ⟨fun h4 => ((((this.on h1).on h2).no h3).on h4).on⟩⟩⟩⟩
theorem atEq_holds : Holds 96 conAtEq := conP_holds fun a b => by
  refine fun_meets0 tok0 [] (by kernel_rfl) (by kernel_rfl) fun hpre => Eq.mpr (vcAtEqF a b _) (qfin rfl rfl rfl rfl)
theorem eqfAts_holds : Holds 95 conEqfAts := conP_holds fun a b _ => by
  refine fun_meets1 (AllH.tok (.cons atEq_holds (by kernel_rfl) .nil)) [] lsEqfAts (by kernel_rfl) (by kernel_rfl) eqfAts_sum fun hpre => Eq.mpr (vcEqfAtsF a b _) ?_
  exact eql_fun (t := .attr) (f := eqAt) (a := a) (b := b) (Q := FinQ _) _ rfl (qfin rfl rfl rfl rfl)
theorem same1_of {k : Nat} (h : Holds 76 (conSameLt k)) : Holds 94 (conSame1 k) := conP_holds fun a b => by
  refine fun_meets0 (AllH.tok (.cons eqfAts_holds (by kernel_rfl) (.cons h (by kernel_rfl) .nil))) [] (by kernel_rfl) (by kernel_rfl) fun hpre => Eq.mpr (vcSame1F k a b _) ?_
  have e := eqNd_eq a b
  rw [eqNds_eql] at e
  refine ⟨fun h1 => ⟨fun h2 => ⟨fun h3 => ⟨fun h4 => ⟨fun h5 => ⟨hpre _ rfl, qfin rfl ?_ rfl rfl⟩, fun h5 => qfin rfl ?_ rfl rfl⟩, fun h4 => qfin rfl ?_ rfl rfl⟩, fun h3 => qfin rfl ?_ rfl rfl⟩, fun h2 => qfin rfl ?_ rfl rfl⟩, fun h1 => qfin rfl ?_ rfl rfl⟩ <;>
  · show [AV.bool _] = [AV.bool _]
    rw [e]
    simp only [*, Bool.true_and, Bool.false_and, Bool.and_false]
theorem eqfNds_of {k : Nat} (h : Holds 94 (conSame1 k)) : Holds 93 (conEqfNds k) := conP_holds fun a b _ => by
  refine fun_meets1 (AllH.tok (.cons h (by kernel_rfl) .nil)) [] (lsEqfNds k) (by kernel_rfl) (by kernel_rfl) (eqfNds_sum k) fun hpre => Eq.mpr (vcEqfNdsF k a b _) ?_
  exact eql_fun (t := .node) (f := eqNd) (a := a) (b := b) (Q := FinQ _) _ ⟨rfl, hpre _ rfl⟩ (qfin rfl rfl rfl rfl)
theorem same_lt : ∀ k, Holds 76 (conSameLt k)
  | 0 => conP_holds fun a b F I w vals _ _ hpre => absurd (hpre _ rfl) (Nat.not_lt_zero _)
  | k + 1 => conP_holds fun a b => by
    refine fun_meets0 (AllH.tok (.cons (eqfNds_of (same1_of (same_lt k))) (by kernel_rfl) .nil)) [] (by kernel_rfl) (by kernel_rfl) fun hpre => Eq.mpr (vcSameF k a b _) ⟨hpre _ rfl, qfin rfl rfl rfl rfl⟩
theorem same_holds : Holds 76 conSame := conP_holds fun a b => 
  Meets.nopre (ans := { pre := some (szNds a < szNds a + 1), res := .bool (eql eqNd a b) }) (same_lt (szNds a + 1) [.row .node a, .row .node b] [] _ rfl) (fun p hp => by injection hp with hp; subst hp; exact Nat.lt_succ_self _)
theorem edSame1_holds : Holds 41 conEdSame1 := conP_holds fun a b => by
  refine fun_meets0 (AllH.tok (.cons same_holds (by kernel_rfl) .nil)) [] (by kernel_rfl) (by kernel_rfl) fun hpre => Eq.mpr (vcEdSame1F a b _) (qfin rfl ?_ rfl rfl)
  rw [nd_eta, nd_eta]
  show [AV.bool (eql eqNd [a] [b])] = [AV.bool (eqNd a b)]
  simp [eql]
theorem edSameF_holds : Holds 39 conEdSameF := conP_holds fun a b => by
  refine fun_meets0 (AllH.tok (.cons eqIts_holds (by kernel_rfl) (.cons edSame1_holds (by kernel_rfl) .nil))) [] (by kernel_rfl) (by kernel_rfl) fun hpre => Eq.mpr (vcEdSameFF a b _) ?_
  rw [nd_eta, nd_eta, nd_eta, nd_eta]
  refine ⟨fun h1 => ⟨fun h2 => ⟨fun h3 => qfin rfl ?_ rfl rfl, fun h3 => qfin rfl ?_ rfl rfl⟩, fun h2 => qfin rfl ?_ rfl rfl⟩, fun h1 => qfin rfl ?_ rfl rfl⟩ <;>
  · show [AV.bool _] = [AV.bool (eqEd a b)]
    unfold eqEd
    simp only [*, Bool.true_and, Bool.false_and, Bool.and_false]
theorem eqfEds_holds : Holds 38 conEqfEds := conP_holds fun a b _ => by
  refine fun_meets1 (AllH.tok (.cons edSameF_holds (by kernel_rfl) .nil)) [] lsEqfEds (by kernel_rfl) (by kernel_rfl) eqfEds_sum fun hpre => Eq.mpr (vcEqfEdsF a b _) ?_
  exact eql_fun (t := .edit) (f := eqEd) (a := a) (b := b) (Q := FinQ _) _ rfl (qfin rfl rfl rfl rfl)
theorem edSame_holds : Holds 18 conEdSame := conP_holds fun a b => by
  refine fun_meets0 (AllH.tok (.cons eqfEds_holds (by kernel_rfl) .nil)) [] (by kernel_rfl) (by kernel_rfl) fun hpre => Eq.mpr (vcEdSameF a b _) (qfin rfl rfl rfl rfl)
end Go.Proofs.YtnhipiedjekkpaaGreatDoor.AX
end
section
namespace Go.Proofs.YtnhipiedjekkpaaGreatDoor.AXP
open Go Go.Proofs.YtnhipiedjekkpaaGreatDoor.AX
def bigB (s : ByteArray) : Bool := decide ((s.size : Int) > 65536)
def longA (a : At) : Bool := bigB a.name || bigB a.value
/-- The first place where something holds. -/
def ixL {α : Type} (p : α → Bool) : Nat → List α → Int
  | _, [] => -1
  | i, a :: l => if p a = true then i else ixL p (i + 1) l
def zeroB (n : Nd) : Bool := eql eqNd [n] [zN]
def rig1 (n : Nd) : Bool := checkS [n] == 0
def atsB (n : Nd) : Bool := zeroB ⟨n.kind, n.space, n.name, [], n.text, n.kids⟩ && decide ((n.attrs.length : Int) ≤ 12) && !n.attrs.any longA
def wdsB (n : Nd) : Bool := zeroB ⟨n.kind, n.space, n.name, n.attrs, ⟨#[]⟩, n.kids⟩ && !bigB n.text
def oddI (i : Int) : Bool := decide (i < 0) || decide (i > 300)
def partB (x : Ed) : Bool :=
  if x.what = 1 then zeroB x.old && rig1 x.new else if x.what = 2 then zeroB x.new && rig1 x.old
  else if x.what = 3 then atsB x.old && atsB x.new else if x.what = 4 then wdsB x.old && wdsB x.new else false
/-- Is an edit plain? -/
def plainB (x : Ed) : Bool := decide (1 ≤ x.what ∧ x.what ≤ 4) && decide ((x.way.length : Int) > 0) && decide ((x.way.length : Int) ≤ 41) && !x.way.any oddI && partB x
def npB (x : Ed) : Bool := !plainB x
def dchkS (s : List Ed) : Int := if (s.length : Int) > 400 then 2 else if s.any npB = true then 4 else 0
def jnOK (l : List ByteArray) : Bool := l.all fun s => !bigB s
/-- What is written of texts up to the first that is too long. -/
def jnT : List ByteArray → List UInt8
  | [] => []
  | s :: l => if bigB s = true then [] else txtL (kb s) ++ jnT l
def jnS (l : List ByteArray) : ByteArray := if jnOK l = true then bk (txsL l) else ⟨#[]⟩
def jnE (l : List ByteArray) : Int := if jnOK l = true then 0 else 2
def lsE (l : List ByteArray) : Int := if (l.length : Int) > 1000 then 2 else jnE l
def lsS (l : List ByteArray) : ByteArray := if lsE l = 0 then bk (lstL l) else ⟨#[]⟩
def ndQ (n : Nd) : ByteArray := if bytE [n] = 0 then txtQ (bytS [n]) else ⟨#[]⟩
def ndE (n : Nd) : Int := if bytE [n] = 0 then txtE (bytS [n]) else bytE [n]
end Go.Proofs.YtnhipiedjekkpaaGreatDoor.AXP
namespace Go.Proofs.YtnhipiedjekkpaaGreatDoor.AX
open Go AXP
def conBigD : Con := conP [.str] fun (s : ByteArray) => { res := .bool (bigB s) }
noncomputable def cxAt1D : Cx := cxT (tabLook [(102, conBigD)])
def conAt1D : Con := conP [.agg .attr] fun (a : At) => { res := .bool (longA a) }
noncomputable def cxIxA : Cx := cxT (tabLook [(101, conAt1D)])
def lsIxA : LS where
  keep := [(0, .as), (1, .as), (7, .as), (8, .as)]
  left := [(4, .as)]
  sum := fun vs bs K => match vs, bs with
    | [.row .attr l, .fn f [], .int .i64 m, .int .i64 i], [] => Rq (f = 101 ∧ m = l.length ∧ i = 0 ∧ l.length ≤ maxSl) (Br (l.any longA) (K .ret [.int .i64 (ixL longA 0 l)] []) (K (.exit 0) [.any] []))
    | _, _ => False
def conIxA : Con := conP [.row .attr, .fn 101] fun (l : List At) _ => { res := .int .i64 (ixL longA 0 l) }
noncomputable def cxCfA : Cx := cxT (tabLook [(122, conIxA)])
def conCfA : Con := conP [.row .attr, .fn 101] fun (l : List At) _ => { res := .bool (l.any longA) }
noncomputable def cxZeroD : Cx := cxT (tabLook [(76, conSame)])
def conZeroD : Con := conP [.agg .node] fun (n : Nd) => { res := .bool (zeroB n) }
noncomputable def cxRigD : Cx := cxT (tabLook [(97, conChk)])
def conRigD : Con := conP [.agg .node] fun (n : Nd) => { pre := some (fineNds [n]), res := .bool (rig1 n) }
noncomputable def cxAtsD : Cx := cxT (tabLook [(100, conCfA), (79, conZeroD)])
def conAtsD : Con := conP [.agg .node] fun (n : Nd) => { res := .bool (atsB n) }
noncomputable def cxWdsD : Cx := cxT (tabLook [(102, conBigD), (79, conZeroD)])
def conWdsD : Con := conP [.agg .node] fun (n : Nd) => { res := .bool (wdsB n) }
noncomputable def cxPlk : Cx := cxT (tabLook [(79, conZeroD), (80, conRigD), (83, conAtsD), (86, conWdsD)])
def conPlIn : Con := conP [.agg .edit] fun (x : Ed) => { pre := some (fineNds [x.new]), res := .bool (zeroB x.old && rig1 x.new) }
def conPlOut : Con := conP [.agg .edit] fun (x : Ed) => { pre := some (fineNds [x.old]), res := .bool (zeroB x.new && rig1 x.old) }
def conPlAts : Con := conP [.agg .edit] fun (x : Ed) => { res := .bool (atsB x.old && atsB x.new) }
def conPlTxt : Con := conP [.agg .edit] fun (x : Ed) => { res := .bool (wdsB x.old && wdsB x.new) }
def conKd1 : Con := fun args hp => match args, hp with
  | [.int .i64 n], [] => some { pre := some (n = 1), res := .tup [.agg [.fn 44 [], .fn 45 [], .fn 46 []], .bool true] }
  | _, _ => none
def conKd2 : Con := fun args hp => match args, hp with
  | [.int .i64 n], [] => some { pre := some (n = 2), res := .tup [.agg [.fn 47 [], .fn 48 [], .fn 49 []], .bool true] }
  | _, _ => none
def conKd3 : Con := fun args hp => match args, hp with
  | [.int .i64 n], [] => some { pre := some (n = 3), res := .tup [.agg [.fn 50 [], .fn 51 [], .fn 52 []], .bool true] }
  | _, _ => none
def conKd4 : Con := fun args hp => match args, hp with
  | [.int .i64 n], [] => some { pre := some (n = 4), res := .tup [.agg [.fn 53 [], .fn 54 [], .fn 55 []], .bool true] }
  | _, _ => none
def conKd0 : Con := fun args hp => match args, hp with
  | [.int .i64 n], [] => some { pre := some (¬ (1 ≤ n ∧ n ≤ 4)), res := .tup [.agg [.any, .any, .any], .bool false] }
  | _, _ => none
/-- The kind of edits, where it is known which. -/
def conKindsK : Nat → Con
  | 1 => conKd1
  | 2 => conKd2
  | 3 => conKd3
  | 4 => conKd4
  | _ => conKd0
def conOddI : Con := conP [.int] fun (i : Int) => { res := .bool (oddI i) }
noncomputable def cxIxI : Cx := cxT (tabLook [(63, conOddI)])
def lsIxI : LS where
  keep := [(0, .as), (1, .as), (7, .as), (8, .as)]
  left := [(4, .as)]
  sum := fun vs bs K => match vs, bs with
    | [.row .int l, .fn f [], .int .i64 m, .int .i64 i], [] => Rq (f = 63 ∧ m = l.length ∧ i = 0 ∧ l.length ≤ maxSl) (Br (l.any oddI) (K .ret [.int .i64 (ixL oddI 0 l)] []) (K (.exit 0) [.any] []))
    | _, _ => False
def conIxI : Con := conP [.row .int, .fn 63] fun (l : List Int) _ => { res := .int .i64 (ixL oddI 0 l) }
noncomputable def cxCfI : Cx := cxT (tabLook [(90, conIxI)])
def conCfI : Con := conP [.row .int, .fn 63] fun (l : List Int) _ => { res := .bool (l.any oddI) }
noncomputable def cxPlain (k : Nat) : Cx := cxT (tabLook [(23, conKindsK k), (62, conCfI), (44, conPlIn), (47, conPlOut), (50, conPlAts), (53, conPlTxt)])
def conPlain : Con := conP [.agg .edit] fun (x : Ed) => { pre := some (fineEd x), res := .bool (plainB x) }
noncomputable def cxCk1D : Cx := cxT (tabLook [(30, conPlain)])
def conCk1D : Con := conP [.agg .edit] fun (x : Ed) => { pre := some (fineEd x), res := .bool (npB x) }
noncomputable def cxIxE : Cx := cxT (tabLook [(29, conCk1D)])
def lsIxE : LS where
  keep := [(0, .as), (1, .as), (7, .as), (8, .as)]
  left := [(4, .as)]
  sum := fun vs bs K => match vs, bs with
    | [.row .edit l, .fn f [], .int .i64 m, .int .i64 i], [] => Rq (f = 29 ∧ m = l.length ∧ i = 0 ∧ l.length ≤ maxSl ∧ fineEds l) (Br (l.any npB) (K .ret [.int .i64 (ixL npB 0 l)] []) (K (.exit 0) [.any] []))
    | _, _ => False
def conIxE : Con := conP [.row .edit, .fn 29] fun (l : List Ed) _ => { pre := some (fineEds l), res := .int .i64 (ixL npB 0 l) }
noncomputable def cxCfE : Cx := cxT (tabLook [(61, conIxE)])
def conCfE : Con := conP [.row .edit, .fn 29] fun (l : List Ed) _ => { pre := some (fineEds l), res := .bool (l.any npB) }
noncomputable def cxCkD : Cx := cxT (tabLook [(28, conCfE)])
def conCkD : Con := conP [.row .edit] fun (s : List Ed) => { pre := some (fineEds s), res := .int .i64 (dchkS s) }
noncomputable def cxNumD : Cx := cxT (tabLook [(43, conNumQ)])
def conNumD : Con := conP [.int] fun (n : Int) => { res := .str (numS n) }
def lsJnL : LS where
  keep := [(4, .as), (9, .as), (10, .as), (11, .as)]
  left := [(4, .as), (2, .as), (3, .as)]
  sum := fun vs bs K => match vs, bs with
    | [.ptr 0 0, .row .str l, .int .i64 m, .int .i64 i], [.bld t] => Rq (m = l.length ∧ i = 0 ∧ t.size = 0 ∧ l.length ≤ 1000000) (Br (jnOK l) (K (.exit 0) [.ptr 0 0, .any, .any] [.bld (bk (jnT l))]) (K .ret [.ptr 0 0, .str ⟨#[]⟩, .int .i64 2] [.bld (bk (jnT l))]))
    | _, _ => False
def conJnL : Con := conP [.row .str] fun (l : List ByteArray) => { pre := some (l.length ≤ 1000000), res := .tup [.str (jnS l), .int .i64 (jnE l)] }
noncomputable def cxLst : Cx := cxT (tabLook [(105, conJnL), (43, conNumQ)])
def conLst : Con := conP [.row .str] fun (l : List ByteArray) => { res := .tup [.str (lsS l), .int .i64 (lsE l)] }
noncomputable def cxLstD : Cx := cxT (tabLook [(103, conLst)])
def lsLstD : LS where
  keep := [(3, .own .str), (8, .as), (9, .as), (10, .as)]
  left := [(3, .own .str)]
  sum := fun vs bs K => match vs, bs with
    | [.own 0 0, .row .attr l, .int .i64 m, .int .i64 i], [.rowb 0 .str o] => Rq (m = l.length ∧ i = 0 ∧ o.length = 0 ∧ l.length ≤ 1000000) (K (.exit 0) [.own 0 0] [.rowb 0 .str (flA l)])
    | _, _ => False
def conLstD : Con := conP [.row .attr] fun (l : List At) => { pre := some (l.length ≤ 1000000), res := .str (lsS (flA l)) }
noncomputable def cxNodeD : Cx := cxT (tabLook [(98, conByts), (87, conTxQ)])
def conNodeD : Con := conP [.agg .node] fun (n : Nd) => { pre := some (fineNds [n]), res := .tup [.str (ndQ n), .int .i64 (ndE n)] }
noncomputable def cxWrk : Cx := cxT (tabLook [(81, conNodeD), (84, conLstD), (87, conTxQ)])
def conWrIn : Con := conP [.agg .edit] fun (x : Ed) => { pre := some (fineNds [x.new]), res := .tup [.str (ndQ x.new), .int .i64 (ndE x.new)] }
def conWrOut : Con := conP [.agg .edit] fun (x : Ed) => { pre := some (fineNds [x.old]), res := .tup [.str (ndQ x.old), .int .i64 (ndE x.old)] }
def conWrAts : Con := conP [.agg .edit] fun (x : Ed) => { pre := some (x.old.attrs.length ≤ 1000 ∧ x.new.attrs.length ≤ 1000), res := .tup [.str (lsS (flA x.old.attrs) ++ lsS (flA x.new.attrs)), .int .i64 0] }
def conWrTxt : Con := conP [.agg .edit] fun (x : Ed) => { res := .tup [.str (txtQ x.old.text ++ txtQ x.new.text), .int .i64 (txtE x.new.text)] }
end Go.Proofs.YtnhipiedjekkpaaGreatDoor.AX
end
section
namespace Go.Proofs.YtnhipiedjekkpaaGreatDoor.AX
open Go AXP
set_option maxRecDepth 100000
theorem vcBigDF (s : ByteArray) (Q : List AV → List Blk → List Blk → Prop) : (funA cx0 (LL Tryz.f102 []) Tryz.f102 [.str s] [] [] Q) = (
Gv (s.size ≤ maxSl) (Q [AV.bool (decide ((↑s.size : Int) > (65536 : Int)))] [] [])) := by kernel_rfl
theorem vcAt1DF (a : At) (Q : List AV → List Blk → List Blk → Prop) : (funA cxAt1D (LL Tryz.f101 []) Tryz.f101 [.agg [.str a.name, .str a.value]] [] [] Q) = (
Br (bigB a.1) (Q [AV.bool true] [] []) (Q [AV.bool (bigB a.2)] [] [])) := by kernel_rfl
theorem vcIxAB (l : List At) (m i : Int) (K : Ex → List AV → List Blk → Prop) : (bodyA cxIxA (LL Tryz.f122 [lsIxA]) Tryz.f122.ntmps (loopAt Tryz.f122 0).1 (loopAt Tryz.f122 0).2 lsIxA.keep lsIxA.left K [.row .attr l, .fn 101 [], .int .i64 m, .int .i64 i] []) = (
Br (decide (i < m))
  (Rq ((0 : Int) ≤ i ∧ i < (↑l.length : Int))
    (Br (longA (At.mk (rd Ty.attr l i).1 (rd Ty.attr l i).2)) (K Ex.ret [AV.int IntKind.i64 i] [])
      (K Ex.norm
        [AV.row Ty.attr l, AV.fn 101 [], AV.int IntKind.i64 m,
          AV.int IntKind.i64 (IntKind.i64.wrap (i + (1 : Int)))]
        [])))
  (K (Ex.exit (0 : Nat)) [AV.any] [])) := by kernel_rfl
theorem vcIxAF (l : List At) (Q : List AV → List Blk → List Blk → Prop) : (funA cxIxA (LL Tryz.f122 [lsIxA]) Tryz.f122 [.row .attr l, .fn 101 []] [] [] Q) = (
Gv (l.length ≤ maxSl)
  (Rq ((101 : Nat) = (101 : Nat) ∧ (↑l.length : Int) = (↑l.length : Int) ∧ (0 : Int) = (0 : Int) ∧ l.length ≤ maxSl)
    (Br (l.any longA) (Q [AV.int IntKind.i64 (ixL longA (0 : Nat) l)] [] []) (Q [AV.int IntKind.i64 (-1 : Int)] [] [])))) := by kernel_rfl
theorem vcCfAF (l : List At) (Q : List AV → List Blk → List Blk → Prop) : (funA cxCfA (LL Tryz.f100 []) Tryz.f100 [.row .attr l, .fn 101 []] [] [] Q) = (
Q [AV.bool (decide (ixL longA (0 : Nat) l ≥ (0 : Int)))] [] []) := by kernel_rfl
theorem vcIxIB (l : List Int) (m i : Int) (K : Ex → List AV → List Blk → Prop) : (bodyA cxIxI (LL Tryz.f90 [lsIxI]) Tryz.f90.ntmps (loopAt Tryz.f90 0).1 (loopAt Tryz.f90 0).2 lsIxI.keep lsIxI.left K [.row .int l, .fn 63 [], .int .i64 m, .int .i64 i] []) = (
Br (decide (i < m))
  (Rq ((0 : Int) ≤ i ∧ i < (↑l.length : Int))
    (Br (oddI (rd Ty.int l i)) (K Ex.ret [AV.int IntKind.i64 i] [])
      (K Ex.norm
        [AV.row Ty.int l, AV.fn 63 [], AV.int IntKind.i64 m,
          AV.int IntKind.i64 (IntKind.i64.wrap (i + (1 : Int)))]
        [])))
  (K (Ex.exit (0 : Nat)) [AV.any] [])) := by kernel_rfl
theorem vcIxIF (l : List Int) (Q : List AV → List Blk → List Blk → Prop) : (funA cxIxI (LL Tryz.f90 [lsIxI]) Tryz.f90 [.row .int l, .fn 63 []] [] [] Q) = (
Gv (l.length ≤ maxSl)
  (Rq ((63 : Nat) = (63 : Nat) ∧ (↑l.length : Int) = (↑l.length : Int) ∧ (0 : Int) = (0 : Int) ∧ l.length ≤ maxSl)
    (Br (l.any oddI) (Q [AV.int IntKind.i64 (ixL oddI (0 : Nat) l)] [] []) (Q [AV.int IntKind.i64 (-1 : Int)] [] [])))) := by kernel_rfl
theorem vcCfIF (l : List Int) (Q : List AV → List Blk → List Blk → Prop) : (funA cxCfI (LL Tryz.f62 []) Tryz.f62 [.row .int l, .fn 63 []] [] [] Q) = (
Q [AV.bool (decide (ixL oddI (0 : Nat) l ≥ (0 : Int)))] [] []) := by kernel_rfl
theorem vcIxEB (l : List Ed) (m i : Int) (K : Ex → List AV → List Blk → Prop) : (bodyA cxIxE (LL Tryz.f61 [lsIxE]) Tryz.f61.ntmps (loopAt Tryz.f61 0).1 (loopAt Tryz.f61 0).2 lsIxE.keep lsIxE.left K [.row .edit l, .fn 29 [], .int .i64 m, .int .i64 i] []) = (
Br (decide (i < m))
  (Rq ((0 : Int) ≤ i ∧ i < (↑l.length : Int))
    (Rq
      (fineEd
        (Ed.mk (rd Ty.edit l i).1 (rd Ty.edit l i).2
          (Nd.mk (rd Ty.edit l i).3.1 (rd Ty.edit l i).3.2 (rd Ty.edit l i).3.3 (rd Ty.edit l i).3.4
            (rd Ty.edit l i).3.5 (rd Ty.edit l i).3.6)
          (Nd.mk (rd Ty.edit l i).4.1 (rd Ty.edit l i).4.2 (rd Ty.edit l i).4.3 (rd Ty.edit l i).4.4
            (rd Ty.edit l i).4.5 (rd Ty.edit l i).4.6)))
      (Br
        (npB
          (Ed.mk (rd Ty.edit l i).1 (rd Ty.edit l i).2
            (Nd.mk (rd Ty.edit l i).3.1 (rd Ty.edit l i).3.2 (rd Ty.edit l i).3.3 (rd Ty.edit l i).3.4
              (rd Ty.edit l i).3.5 (rd Ty.edit l i).3.6)
            (Nd.mk (rd Ty.edit l i).4.1 (rd Ty.edit l i).4.2 (rd Ty.edit l i).4.3 (rd Ty.edit l i).4.4
              (rd Ty.edit l i).4.5 (rd Ty.edit l i).4.6)))
        (K Ex.ret [AV.int IntKind.i64 i] [])
        (K Ex.norm
          [AV.row Ty.edit l, AV.fn 29 [], AV.int IntKind.i64 m,
            AV.int IntKind.i64 (IntKind.i64.wrap (i + (1 : Int)))]
          []))))
  (K (Ex.exit (0 : Nat)) [AV.any] [])) := by kernel_rfl
theorem vcIxEF (l : List Ed) (Q : List AV → List Blk → List Blk → Prop) : (funA cxIxE (LL Tryz.f61 [lsIxE]) Tryz.f61 [.row .edit l, .fn 29 []] [] [] Q) = (
Gv (l.length ≤ maxSl)
  (Rq
    ((29 : Nat) = (29 : Nat) ∧
      (↑l.length : Int) = (↑l.length : Int) ∧ (0 : Int) = (0 : Int) ∧ l.length ≤ maxSl ∧ fineEds l)
    (Br (l.any npB) (Q [AV.int IntKind.i64 (ixL npB (0 : Nat) l)] [] []) (Q [AV.int IntKind.i64 (-1 : Int)] [] [])))) := by kernel_rfl
theorem vcCfEF (l : List Ed) (Q : List AV → List Blk → List Blk → Prop) : (funA cxCfE (LL Tryz.f28 []) Tryz.f28 [.row .edit l, .fn 29 []] [] [] Q) = (
Rq (fineEds l) (Q [AV.bool (decide (ixL npB (0 : Nat) l ≥ (0 : Int)))] [] [])) := by kernel_rfl
theorem vcZeroDF (n : Nd) (Q : List AV → List Blk → List Blk → Prop) : (funA cxZeroD (LL Tryz.f79 []) Tryz.f79 [.agg (nodeL n)] [] [] Q) = (
Q
  [AV.bool
      (eql eqNd [Nd.mk n.1 n.2 n.3 n.4 n.5 n.6]
        [Nd.mk (0 : Int) (0 : Int) (ByteArray.mk (Array.mk [])) [] (ByteArray.mk (Array.mk [])) []])]
  [] []) := by kernel_rfl
theorem vcRigDF (n : Nd) (Q : List AV → List Blk → List Blk → Prop) : (funA cxRigD (LL Tryz.f80 []) Tryz.f80 [.agg (nodeL n)] [] [] Q) = (
Rq (fineNds [Nd.mk n.1 n.2 n.3 n.4 n.5 n.6]) (Q [AV.bool (checkS [Nd.mk n.1 n.2 n.3 n.4 n.5 n.6] == (0 : Int))] [] [])) := by kernel_rfl
theorem vcAtsDF (n : Nd) (Q : List AV → List Blk → List Blk → Prop) : (funA cxAtsD (LL Tryz.f83 []) Tryz.f83 [.agg (nodeL n)] [] [] Q) = (
Gv (n.4.length ≤ maxSl)
  (Br (zeroB (Nd.mk n.1 n.2 n.3 [] n.5 n.6))
    (Br (decide ((↑n.4.length : Int) ≤ (12 : Int))) (Q [AV.bool !n.4.any longA] [] []) (Q [AV.bool false] [] []))
    (Q [AV.bool false] [] []))) := by kernel_rfl
theorem vcWdsDF (n : Nd) (Q : List AV → List Blk → List Blk → Prop) : (funA cxWdsD (LL Tryz.f86 []) Tryz.f86 [.agg (nodeL n)] [] [] Q) = (
Br (zeroB (Nd.mk n.1 n.2 n.3 n.4 (ByteArray.mk (Array.mk [])) n.6)) (Q [AV.bool !bigB n.5] [] [])
  (Q [AV.bool false] [] [])) := by kernel_rfl
theorem vcPlInF (x : Ed) (Q : List AV → List Blk → List Blk → Prop) : (funA cxPlk (LL Tryz.f44 []) Tryz.f44 [.agg (editL x)] [] [] Q) = (
Br (zeroB (Nd.mk x.3.1 x.3.2 x.3.3 x.3.4 x.3.5 x.3.6))
  (Rq (fineNds [Nd.mk x.4.1 x.4.2 x.4.3 x.4.4 x.4.5 x.4.6])
    (Q [AV.bool (rig1 (Nd.mk x.4.1 x.4.2 x.4.3 x.4.4 x.4.5 x.4.6))] [] []))
  (Q [AV.bool false] [] [])) := by kernel_rfl
theorem vcPlOutF (x : Ed) (Q : List AV → List Blk → List Blk → Prop) : (funA cxPlk (LL Tryz.f47 []) Tryz.f47 [.agg (editL x)] [] [] Q) = (
Br (zeroB (Nd.mk x.4.1 x.4.2 x.4.3 x.4.4 x.4.5 x.4.6))
  (Rq (fineNds [Nd.mk x.3.1 x.3.2 x.3.3 x.3.4 x.3.5 x.3.6])
    (Q [AV.bool (rig1 (Nd.mk x.3.1 x.3.2 x.3.3 x.3.4 x.3.5 x.3.6))] [] []))
  (Q [AV.bool false] [] [])) := by kernel_rfl
theorem vcPlAttrsF (x : Ed) (Q : List AV → List Blk → List Blk → Prop) : (funA cxPlk (LL Tryz.f50 []) Tryz.f50 [.agg (editL x)] [] [] Q) = (
Br (atsB (Nd.mk x.3.1 x.3.2 x.3.3 x.3.4 x.3.5 x.3.6))
  (Q [AV.bool (atsB (Nd.mk x.4.1 x.4.2 x.4.3 x.4.4 x.4.5 x.4.6))] [] []) (Q [AV.bool false] [] [])) := by kernel_rfl
theorem vcPlTextF (x : Ed) (Q : List AV → List Blk → List Blk → Prop) : (funA cxPlk (LL Tryz.f53 []) Tryz.f53 [.agg (editL x)] [] [] Q) = (
Br (wdsB (Nd.mk x.3.1 x.3.2 x.3.3 x.3.4 x.3.5 x.3.6))
  (Q [AV.bool (wdsB (Nd.mk x.4.1 x.4.2 x.4.3 x.4.4 x.4.5 x.4.6))] [] []) (Q [AV.bool false] [] [])) := by kernel_rfl
theorem vcKindsF (n : Int) (Q : List AV → List Blk → List Blk → Prop) : (funA cx0 (LL Tryz.f23 []) Tryz.f23 [.int .i64 n] [] [] Q) = (
Br (decide (n < (1 : Int))) (Q [AV.agg [AV.any, AV.any, AV.any], AV.bool false] [] [])
  (Br (decide (n > (4 : Int))) (Q [AV.agg [AV.any, AV.any, AV.any], AV.bool false] [] [])
    (Rq
      ((0 : Int) ≤ IntKind.i64.wrap (n - (1 : Int)) ∧
        IntKind.i64.wrap (n - (1 : Int)) <
          (↑[Kf.mk 44 45 46, Kf.mk 47 48 49,
                  Kf.mk 50 51 52, Kf.mk 53 54 55].length :
            Int))
      (Q
        [AV.agg
            [AV.fn
                (rd Ty.fns
                    [Kf.mk 44 45 46, Kf.mk 47 48 49,
                      Kf.mk 50 51 52, Kf.mk 53 54 55]
                    (IntKind.i64.wrap (n - (1 : Int)))).1
                [],
              AV.fn
                (rd Ty.fns
                    [Kf.mk 44 45 46, Kf.mk 47 48 49,
                      Kf.mk 50 51 52, Kf.mk 53 54 55]
                    (IntKind.i64.wrap (n - (1 : Int)))).2
                [],
              AV.fn
                (rd Ty.fns
                    [Kf.mk 44 45 46, Kf.mk 47 48 49,
                      Kf.mk 50 51 52, Kf.mk 53 54 55]
                    (IntKind.i64.wrap (n - (1 : Int)))).3
                []],
          AV.bool true]
        [] [])))) := by kernel_rfl
theorem vcOddIF (i : Int) (Q : List AV → List Blk → List Blk → Prop) : (funA cx0 (LL Tryz.f63 []) Tryz.f63 [.int .i64 i] [] [] Q) = (
Br (decide (i < (0 : Int))) (Q [AV.bool true] [] []) (Q [AV.bool (decide (i > (300 : Int)))] [] [])) := by kernel_rfl
theorem vcPlain0F (x : Ed) (Q : List AV → List Blk → List Blk → Prop) : (funA (cxPlain 0) (LL Tryz.f30 []) Tryz.f30 [.agg (editL x)] [] [] Q) = (
Rq (¬((1 : Int) ≤ x.1 ∧ x.1 ≤ (4 : Int)))
  (Br false
    (Br (decide ((↑x.2.length : Int) > (0 : Int)))
      (Br (decide ((↑x.2.length : Int) ≤ (41 : Int)))
        (Br (!x.2.any oddI) False (Gv (x.2.length ≤ maxSl) (Gv (x.2.length ≤ maxSl) (Q [AV.bool false] [] []))))
        (Gv (x.2.length ≤ maxSl) (Gv (x.2.length ≤ maxSl) (Q [AV.bool false] [] []))))
      (Gv (x.2.length ≤ maxSl) (Q [AV.bool false] [] [])))
    (Q [AV.bool false] [] []))) := by kernel_rfl
theorem vcPlain1F (x : Ed) (Q : List AV → List Blk → List Blk → Prop) : (funA (cxPlain 1) (LL Tryz.f30 []) Tryz.f30 [.agg (editL x)] [] [] Q) = (
Rq (x.1 = (1 : Int))
  (Br true
    (Br (decide ((↑x.2.length : Int) > (0 : Int)))
      (Br (decide ((↑x.2.length : Int) ≤ (41 : Int)))
        (Br (!x.2.any oddI)
          (Rq (fineNds [Nd.mk x.4.1 x.4.2 x.4.3 x.4.4 x.4.5 x.4.6])
            (Gv (x.2.length ≤ maxSl)
              (Gv (x.2.length ≤ maxSl)
                (Q
                  [AV.bool
                      (zeroB (Nd.mk x.3.1 x.3.2 x.3.3 x.3.4 x.3.5 x.3.6) &&
                        rig1 (Nd.mk x.4.1 x.4.2 x.4.3 x.4.4 x.4.5 x.4.6))]
                  [] []))))
          (Gv (x.2.length ≤ maxSl) (Gv (x.2.length ≤ maxSl) (Q [AV.bool false] [] []))))
        (Gv (x.2.length ≤ maxSl) (Gv (x.2.length ≤ maxSl) (Q [AV.bool false] [] []))))
      (Gv (x.2.length ≤ maxSl) (Q [AV.bool false] [] [])))
    (Q [AV.bool false] [] []))) := by kernel_rfl
theorem vcPlain2F (x : Ed) (Q : List AV → List Blk → List Blk → Prop) : (funA (cxPlain 2) (LL Tryz.f30 []) Tryz.f30 [.agg (editL x)] [] [] Q) = (
Rq (x.1 = (2 : Int))
  (Br true
    (Br (decide ((↑x.2.length : Int) > (0 : Int)))
      (Br (decide ((↑x.2.length : Int) ≤ (41 : Int)))
        (Br (!x.2.any oddI)
          (Rq (fineNds [Nd.mk x.3.1 x.3.2 x.3.3 x.3.4 x.3.5 x.3.6])
            (Gv (x.2.length ≤ maxSl)
              (Gv (x.2.length ≤ maxSl)
                (Q
                  [AV.bool
                      (zeroB (Nd.mk x.4.1 x.4.2 x.4.3 x.4.4 x.4.5 x.4.6) &&
                        rig1 (Nd.mk x.3.1 x.3.2 x.3.3 x.3.4 x.3.5 x.3.6))]
                  [] []))))
          (Gv (x.2.length ≤ maxSl) (Gv (x.2.length ≤ maxSl) (Q [AV.bool false] [] []))))
        (Gv (x.2.length ≤ maxSl) (Gv (x.2.length ≤ maxSl) (Q [AV.bool false] [] []))))
      (Gv (x.2.length ≤ maxSl) (Q [AV.bool false] [] [])))
    (Q [AV.bool false] [] []))) := by kernel_rfl
theorem vcPlain3F (x : Ed) (Q : List AV → List Blk → List Blk → Prop) : (funA (cxPlain 3) (LL Tryz.f30 []) Tryz.f30 [.agg (editL x)] [] [] Q) = (
Rq (x.1 = (3 : Int))
  (Br true
    (Br (decide ((↑x.2.length : Int) > (0 : Int)))
      (Br (decide ((↑x.2.length : Int) ≤ (41 : Int)))
        (Br (!x.2.any oddI)
          (Gv (x.2.length ≤ maxSl)
            (Gv (x.2.length ≤ maxSl)
              (Q
                [AV.bool
                    (atsB (Nd.mk x.3.1 x.3.2 x.3.3 x.3.4 x.3.5 x.3.6) &&
                      atsB (Nd.mk x.4.1 x.4.2 x.4.3 x.4.4 x.4.5 x.4.6))]
                [] [])))
          (Gv (x.2.length ≤ maxSl) (Gv (x.2.length ≤ maxSl) (Q [AV.bool false] [] []))))
        (Gv (x.2.length ≤ maxSl) (Gv (x.2.length ≤ maxSl) (Q [AV.bool false] [] []))))
      (Gv (x.2.length ≤ maxSl) (Q [AV.bool false] [] [])))
    (Q [AV.bool false] [] []))) := by kernel_rfl
theorem vcPlain4F (x : Ed) (Q : List AV → List Blk → List Blk → Prop) : (funA (cxPlain 4) (LL Tryz.f30 []) Tryz.f30 [.agg (editL x)] [] [] Q) = (
Rq (x.1 = (4 : Int))
  (Br true
    (Br (decide ((↑x.2.length : Int) > (0 : Int)))
      (Br (decide ((↑x.2.length : Int) ≤ (41 : Int)))
        (Br (!x.2.any oddI)
          (Gv (x.2.length ≤ maxSl)
            (Gv (x.2.length ≤ maxSl)
              (Q
                [AV.bool
                    (wdsB (Nd.mk x.3.1 x.3.2 x.3.3 x.3.4 x.3.5 x.3.6) &&
                      wdsB (Nd.mk x.4.1 x.4.2 x.4.3 x.4.4 x.4.5 x.4.6))]
                [] [])))
          (Gv (x.2.length ≤ maxSl) (Gv (x.2.length ≤ maxSl) (Q [AV.bool false] [] []))))
        (Gv (x.2.length ≤ maxSl) (Gv (x.2.length ≤ maxSl) (Q [AV.bool false] [] []))))
      (Gv (x.2.length ≤ maxSl) (Q [AV.bool false] [] [])))
    (Q [AV.bool false] [] []))) := by kernel_rfl
theorem vcCk1DF (x : Ed) (Q : List AV → List Blk → List Blk → Prop) : (funA cxCk1D (LL Tryz.f29 []) Tryz.f29 [.agg (editL x)] [] [] Q) = (
Rq (fineEd (Ed.mk x.1 x.2 (Nd.mk x.3.1 x.3.2 x.3.3 x.3.4 x.3.5 x.3.6) (Nd.mk x.4.1 x.4.2 x.4.3 x.4.4 x.4.5 x.4.6)))
  (Q
    [AV.bool
        !plainB (Ed.mk x.1 x.2 (Nd.mk x.3.1 x.3.2 x.3.3 x.3.4 x.3.5 x.3.6) (Nd.mk x.4.1 x.4.2 x.4.3 x.4.4 x.4.5 x.4.6))]
    [] [])) := by kernel_rfl
theorem vcCkDF (s : List Ed) (Q : List AV → List Blk → List Blk → Prop) : (funA cxCkD (LL Tryz.f13 []) Tryz.f13 [.row .edit s] [] [] Q) = (
Gv (s.length ≤ maxSl)
  (Br (decide ((↑s.length : Int) > (400 : Int))) (Q [AV.int IntKind.i64 (2 : Int)] [] [])
    (Rq (fineEds s) (Br (s.any npB) (Q [AV.int IntKind.i64 (4 : Int)] [] []) (Q [AV.int IntKind.i64 (0 : Int)] [] []))))) := by kernel_rfl
theorem vcNumDF (n : Int) (Q : List AV → List Blk → List Blk → Prop) : (funA cxNumD (LL Tryz.f22 []) Tryz.f22 [.int .i64 n] [] [] Q) = (
Q [AV.str (numS n)] [] []) := by kernel_rfl
theorem vcJnLB (t : ByteArray) (l : List ByteArray) (m i : Int) (K : Ex → List AV → List Blk → Prop) : (bodyA cxJnQ (LL Tryz.f105 [lsJnL]) Tryz.f105.ntmps (loopAt Tryz.f105 0).1 (loopAt Tryz.f105 0).2 lsJnL.keep lsJnL.left K [.ptr 0 0, .row .str l, .int .i64 m, .int .i64 i] [.bld t]) = (
Br (decide (i < m))
  (Rq ((0 : Int) ≤ i ∧ i < (↑l.length : Int))
    (Gv (ByteArray.size (rd Ty.str l i) ≤ maxSl)
      (Br (decide ((↑(ByteArray.size (rd Ty.str l i)) : Int) > (65536 : Int)))
        (K Ex.ret [AV.ptr (0 : Nat) (0 : Nat), AV.str (ByteArray.mk (Array.mk [])), AV.int IntKind.i64 (2 : Int)]
          [Blk.bld t])
        (Gv (ByteArray.size (rd Ty.str l i) ≤ maxSl)
          (Rq ((numS (↑(ByteArray.size (rd Ty.str l i)) : Int)).size + ByteArray.size (rd Ty.str l i) ≤ maxSl)
            (Rq (t.size + (numS (↑(ByteArray.size (rd Ty.str l i)) : Int) ++ rd Ty.str l i).size ≤ maxSl)
              (K Ex.norm
                [AV.ptr (0 : Nat) (0 : Nat), AV.row Ty.str l, AV.int IntKind.i64 m,
                  AV.int IntKind.i64 (IntKind.i64.wrap (i + (1 : Int)))]
                [Blk.bld (t ++ (numS (↑(ByteArray.size (rd Ty.str l i)) : Int) ++ rd Ty.str l i))])))))))
  (K (Ex.exit (0 : Nat)) [AV.ptr (0 : Nat) (0 : Nat), AV.any, AV.any] [Blk.bld t])) := by kernel_rfl
theorem vcJnLF (l : List ByteArray) (Q : List AV → List Blk → List Blk → Prop) : (funA cxJnQ (LL Tryz.f105 [lsJnL]) Tryz.f105 [.row .str l] [] [] Q) = (
Gv (l.length ≤ maxSl)
  (Rq
    ((↑l.length : Int) = (↑l.length : Int) ∧
      (0 : Int) = (0 : Int) ∧ (ByteArray.mk (Array.mk [])).size = (0 : Nat) ∧ l.length ≤ (1000000 : Nat))
    (Br (jnOK l) (Rq ((bk (jnT l)).size ≤ maxSl) (Q [AV.str (bk (jnT l)), AV.int IntKind.i64 (0 : Int)] [] []))
      (Q [AV.str (ByteArray.mk (Array.mk [])), AV.int IntKind.i64 (2 : Int)] [] [])))) := by kernel_rfl
theorem vcLstF (l : List ByteArray) (Q : List AV → List Blk → List Blk → Prop) : (funA cxLst (LL Tryz.f103 []) Tryz.f103 [.row .str l] [] [] Q) = (
Gv (l.length ≤ maxSl)
  (Br (decide ((↑l.length : Int) > (1000 : Int)))
    (Q [AV.str (ByteArray.mk (Array.mk [])), AV.int IntKind.i64 (2 : Int)] [] [])
    (Rq (l.length ≤ (1000000 : Nat))
      (Br (jnE l != (0 : Int)) (Q [AV.str (ByteArray.mk (Array.mk [])), AV.int IntKind.i64 (jnE l)] [] [])
        (Gv (l.length ≤ maxSl)
          (Rq ((numS (↑l.length : Int)).size + (jnS l).size ≤ maxSl)
            (Q [AV.str (numS (↑l.length : Int) ++ jnS l), AV.int IntKind.i64 (0 : Int)] [] []))))))) := by kernel_rfl
theorem vcLstDB (o : List ByteArray) (l : List At) (m i : Int) (K : Ex → List AV → List Blk → Prop) : (bodyA cxLstD (LL Tryz.f84 [lsLstD]) Tryz.f84.ntmps (loopAt Tryz.f84 0).1 (loopAt Tryz.f84 0).2 lsLstD.keep lsLstD.left K [.own 0 0, .row .attr l, .int .i64 m, .int .i64 i] [.rowb 0 .str o]) = (
Br (decide (i < m))
  (Rq ((0 : Int) ≤ i ∧ i < (↑l.length : Int))
    (Rq ((o.length + [(rd Ty.attr l i).1, (rd Ty.attr l i).2].length) * (16 : Nat) ≤ maxSl)
      (K Ex.norm
        [AV.own (0 : Nat) (0 : Nat), AV.row Ty.attr l, AV.int IntKind.i64 m,
          AV.int IntKind.i64 (IntKind.i64.wrap (i + (1 : Int)))]
        [Blk.rowb (0 : Nat) Ty.str (o ++ [(rd Ty.attr l i).1, (rd Ty.attr l i).2])])))
  (K (Ex.exit (0 : Nat)) [AV.own (0 : Nat) (0 : Nat)] [Blk.rowb (0 : Nat) Ty.str o])) := by kernel_rfl
theorem vcLstDF (l : List At) (Q : List AV → List Blk → List Blk → Prop) : (funA cxLstD (LL Tryz.f84 [lsLstD]) Tryz.f84 [.row .attr l] [] [] Q) = (
Gv (l.length ≤ maxSl)
  (Rq
    ((↑l.length : Int) = (↑l.length : Int) ∧ (0 : Int) = (0 : Int) ∧ (0 : Nat) = (0 : Nat) ∧ l.length ≤ (1000000 : Nat))
    (Q [AV.str (lsS (flA l))] [] []))) := by kernel_rfl
theorem vcNodeDF (n : Nd) (Q : List AV → List Blk → List Blk → Prop) : (funA cxNodeD (LL Tryz.f81 []) Tryz.f81 [.agg (nodeL n)] [] [] Q) = (
Rq (fineNds [Nd.mk n.1 n.2 n.3 n.4 n.5 n.6])
  (Br (bytE [Nd.mk n.1 n.2 n.3 n.4 n.5 n.6] != (0 : Int))
    (Q [AV.str (ByteArray.mk (Array.mk [])), AV.int IntKind.i64 (bytE [Nd.mk n.1 n.2 n.3 n.4 n.5 n.6])] [] [])
    (Q
      [AV.str (txtQ (bytS [Nd.mk n.1 n.2 n.3 n.4 n.5 n.6])),
        AV.int IntKind.i64 (txtE (bytS [Nd.mk n.1 n.2 n.3 n.4 n.5 n.6]))]
      [] []))) := by kernel_rfl
theorem vcWrInF (x : Ed) (Q : List AV → List Blk → List Blk → Prop) : (funA cxWrk (LL Tryz.f45 []) Tryz.f45 [.agg (editL x)] [] [] Q) = (
Rq (fineNds [Nd.mk x.4.1 x.4.2 x.4.3 x.4.4 x.4.5 x.4.6])
  (Q
    [AV.str (ndQ (Nd.mk x.4.1 x.4.2 x.4.3 x.4.4 x.4.5 x.4.6)),
      AV.int IntKind.i64 (ndE (Nd.mk x.4.1 x.4.2 x.4.3 x.4.4 x.4.5 x.4.6))]
    [] [])) := by kernel_rfl
theorem vcWrOutF (x : Ed) (Q : List AV → List Blk → List Blk → Prop) : (funA cxWrk (LL Tryz.f48 []) Tryz.f48 [.agg (editL x)] [] [] Q) = (
Rq (fineNds [Nd.mk x.3.1 x.3.2 x.3.3 x.3.4 x.3.5 x.3.6])
  (Q
    [AV.str (ndQ (Nd.mk x.3.1 x.3.2 x.3.3 x.3.4 x.3.5 x.3.6)),
      AV.int IntKind.i64 (ndE (Nd.mk x.3.1 x.3.2 x.3.3 x.3.4 x.3.5 x.3.6))]
    [] [])) := by kernel_rfl
theorem vcWrAttrsF (x : Ed) (Q : List AV → List Blk → List Blk → Prop) : (funA cxWrk (LL Tryz.f51 []) Tryz.f51 [.agg (editL x)] [] [] Q) = (
Rq (x.3.4.length ≤ (1000000 : Nat))
  (Rq (x.4.4.length ≤ (1000000 : Nat))
    (Rq ((lsS (flA x.3.4)).size + (lsS (flA x.4.4)).size ≤ maxSl)
      (Q [AV.str (lsS (flA x.3.4) ++ lsS (flA x.4.4)), AV.int IntKind.i64 (0 : Int)] [] [])))) := by kernel_rfl
theorem vcWrTextF (x : Ed) (Q : List AV → List Blk → List Blk → Prop) : (funA cxWrk (LL Tryz.f54 []) Tryz.f54 [.agg (editL x)] [] [] Q) = (
Rq ((txtQ x.3.5).size + (txtQ x.4.5).size ≤ maxSl)
  (Q [AV.str (txtQ x.3.5 ++ txtQ x.4.5), AV.int IntKind.i64 (txtE x.4.5)] [] [])) := by kernel_rfl
end Go.Proofs.YtnhipiedjekkpaaGreatDoor.AX
end
section
namespace Go.Proofs.YtnhipiedjekkpaaGreatDoor.AXP
open Go Go.Proofs.YtnhipiedjekkpaaGreatDoor.AX
theorem bigB_no {s : ByteArray} (h : bigB s = false) : s.size ≤ 65536 := by have := of_decide_eq_false h; omega
theorem longA_no {a : At} (h : longA a = false) : a.name.size ≤ 65536 ∧ a.value.size ≤ 65536 := by
  unfold longA at h
  rw [Bool.or_eq_false_iff] at h
  exact ⟨bigB_no h.1, bigB_no h.2⟩
theorem ixL_neg {α : Type} {p : α → Bool} : ∀ (l : List α) (i : Nat), l.any p = false → ixL p i l = -1
  | [], _, _ => rfl
  | a :: l, i, h => by
    rw [List.any_cons, Bool.or_eq_false_iff] at h
    rw [ixL, if_neg (by rw [h.1]; decide), ixL_neg l _ h.2]
theorem ixL_pos {α : Type} {p : α → Bool} : ∀ (l : List α) (i : Nat), l.any p = true → 0 ≤ ixL p i l
  | [], _, h => by cases h
  | a :: l, i, h => by
    rw [ixL]
    split
    · omega
    · rename_i h1
      rw [List.any_cons, show p a = false by simpa using h1, Bool.false_or] at h
      exact ixL_pos l _ h
theorem zeroB_iff {n : Nd} : zeroB n = true ↔ n = zN := by
  unfold zeroB
  rw [eql_iff eqNd_iff]
  simp
theorem atsB_ok {n : Nd} (h : atsB n = true) : n = { zN with attrs := n.attrs } ∧ n.attrs.length ≤ 12 ∧ ∀ a ∈ n.attrs, a.name.size ≤ 65536 ∧ a.value.size ≤ 65536 := by
  unfold atsB at h
  simp only [Bool.and_eq_true, decide_eq_true_eq, Bool.not_eq_true'] at h
  obtain ⟨⟨h1, h2⟩, h3⟩ := h
  have h1 := zeroB_iff.1 h1
  refine ⟨?_, by omega, fun a ha => longA_no ?_⟩
  · obtain ⟨k, s, m, a, t, c⟩ := n
    unfold zN at h1 ⊢
    injection h1 with e1 e2 e3 e4 e5 e6
    subst e1 e2 e3 e5 e6
    rfl
  · have := List.any_eq_false.1 h3 a ha
    simpa using this
theorem wdsB_ok {n : Nd} (h : wdsB n = true) : n = { zN with text := n.text } ∧ n.text.size ≤ 65536 := by
  unfold wdsB at h
  simp only [Bool.and_eq_true, Bool.not_eq_true'] at h
  have h1 := zeroB_iff.1 h.1
  refine ⟨?_, bigB_no h.2⟩
  obtain ⟨k, s, m, a, t, c⟩ := n
  unfold zN at h1 ⊢
  injection h1 with e1 e2 e3 e4 e5 e6
  subst e1 e2 e3 e4 e6
  rfl
theorem plain_ok {x : Ed} (h : plainB x = true) : PlainP x ∧ (x.what = 1 → checkS [x.new] = 0) ∧ (x.what = 2 → checkS [x.old] = 0) := by
  unfold plainB at h
  simp only [Bool.and_eq_true, decide_eq_true_eq, Bool.not_eq_true'] at h
  obtain ⟨⟨⟨⟨⟨h1, h2⟩, h3⟩, h4⟩, h5⟩, h6⟩ := h
  have ha : ∀ i ∈ x.way, 0 ≤ i ∧ i ≤ 300 := fun i hi => by
    have := List.any_eq_false.1 h5 i hi
    unfold oddI at this
    simp only [Bool.or_eq_true, decide_eq_true_eq, not_or] at this
    omega
  unfold partB at h6
  by_cases w1 : x.what = 1
  · rw [if_pos w1, Bool.and_eq_true] at h6
    refine ⟨⟨h1, h2, by omega, by omega, ha, fun _ => zeroB_iff.1 h6.1, fun e => by omega, fun e => by omega, fun e => by omega⟩, fun _ => ?_, fun e => by omega⟩
    have := h6.2
    unfold rig1 at this
    simpa using this
  rw [if_neg w1] at h6
  by_cases w2 : x.what = 2
  · rw [if_pos w2, Bool.and_eq_true] at h6
    refine ⟨⟨h1, h2, by omega, by omega, ha, fun e => by omega, fun _ => zeroB_iff.1 h6.1, fun e => by omega, fun e => by omega⟩, fun e => by omega, fun _ => ?_⟩
    have := h6.2
    unfold rig1 at this
    simpa using this
  rw [if_neg w2] at h6
  by_cases w3 : x.what = 3
  · rw [if_pos w3, Bool.and_eq_true] at h6
    exact ⟨⟨h1, h2, by omega, by omega, ha, fun e => by omega, fun e => by omega, fun _ => ⟨atsB_ok h6.1, atsB_ok h6.2⟩, fun e => by omega⟩, fun e => by omega, fun e => by omega⟩
  rw [if_neg w3] at h6
  have w4 : x.what = 4 := by omega
  rw [if_pos w4, Bool.and_eq_true] at h6
  exact ⟨⟨h1, h2, by omega, by omega, ha, fun e => by omega, fun e => by omega, fun e => by omega, fun _ => ⟨wdsB_ok h6.1, wdsB_ok h6.2⟩⟩, fun e => by omega, fun e => by omega⟩
/-! ### Lists of texts -/
theorem jn_eq : ∀ {l : List ByteArray}, jnOK l = true → jnT l = txsL l ∧ ∀ s ∈ l, s.size ≤ 65536
  | [], _ => ⟨rfl, fun s hs => (nomatch hs)⟩
  | s :: l, h => by
    unfold jnOK at h
    rw [List.all_cons, Bool.and_eq_true] at h
    have h1 : bigB s = false := by simpa using h.1
    obtain ⟨e1, e2⟩ := jn_eq (l := l) h.2
    refine ⟨by rw [jnT, if_neg (by rw [h1]; decide), txsL, e1], fun x hx => ?_⟩
    cases hx with
    | head => exact bigB_no h1
    | tail _ hx => exact e2 x hx
theorem jn_all {l : List ByteArray} (h : ∀ s ∈ l, s.size ≤ 65536) : jnOK l = true := by
  unfold jnOK
  refine List.all_eq_true.2 fun s hs => ?_
  have := h s hs
  unfold bigB
  rw [decide_eq_false (by omega)]; rfl
theorem txtL_len6 {s : ByteArray} (h : s.size ≤ 65536) : (txtL (kb s)).length ≤ s.size + 7 := by
  unfold txtL
  have := numL_le (n := (kb s).length) (by rw [kb_size]; omega)
  rw [List.length_append, kb_size] at *; omega
theorem jnT_le : ∀ (l : List ByteArray), (jnT l).length ≤ l.length * 65543
  | [] => Nat.zero_le _
  | s :: l => by
    rw [jnT, List.length_cons]
    split
    · exact Nat.zero_le _
    · rename_i h
      have := txtL_len6 (bigB_no (s := s) (by simpa using h))
      have := bigB_no (s := s) (by simpa using h)
      have := jnT_le l
      rw [List.length_append]; omega
theorem lsS_eq {l : List ByteArray} (hl : l.length ≤ 1000) (h : ∀ s ∈ l, s.size ≤ 65536) : lsE l = 0 ∧ lsS l = bk (lstL l) := by
  have e : lsE l = 0 := by
    unfold lsE jnE
    rw [if_neg (by omega), if_pos (jn_all h)]
  unfold lsS
  rw [if_pos e]
  exact ⟨e, rfl⟩
theorem lstL_le {l : List ByteArray} (hl : l.length ≤ 1000) (h : ∀ s ∈ l, s.size ≤ 65536) : (lstL l).length ≤ 7 + l.length * 65543 := by
  have := jnT_le l
  rw [(jn_eq (jn_all h)).1] at this
  have := numL_le (n := l.length) (by omega)
  unfold lstL
  rw [List.length_append]; omega
theorem ats_ls {l : List At} (hl : l.length ≤ 500) (h : ∀ a ∈ l, a.name.size ≤ 65536 ∧ a.value.size ≤ 65536) : lsS (flA l) = bk (lstL (flA l)) ∧ (lstL (flA l)).length ≤ 7 + 2 * l.length * 65543 := by
  have := lstL_le (l := flA l) (by rw [fl_len]; omega) (fl_all h)
  rw [fl_len] at this
  exact ⟨(lsS_eq (by rw [fl_len]; omega) (fl_all h)).2, this⟩
end Go.Proofs.YtnhipiedjekkpaaGreatDoor.AXP
namespace Go.Proofs.YtnhipiedjekkpaaGreatDoor.AX
open Go AXP
set_option maxRecDepth 100000
theorem bigD_holds : Holds 102 conBigD := conP_holds fun s => by
  rcases (show ∃ w : ByteArray, w = s from ⟨_, rfl⟩) with ⟨s, rfl⟩
  exact fun_meets0 tok0 [] (by kernel_rfl) (by kernel_rfl) fun _ => Eq.mpr (vcBigDF s _) ⟨fun _ => qfin rfl rfl rfl rfl⟩
theorem at1D_holds : Holds 101 conAt1D := conP_holds fun a => by
  rcases (show ∃ w : At, w = a from ⟨_, rfl⟩) with ⟨a, rfl⟩
  refine fun_meets0 (AllH.tok (.cons bigD_holds (by kernel_rfl) .nil)) [] (by kernel_rfl) (by kernel_rfl) fun _ => Eq.mpr (vcAt1DF a _) ⟨fun h => qfin rfl ?_ rfl rfl, fun h => qfin rfl ?_ rfl rfl⟩
  · show [AV.bool true] = [AV.bool (longA a)]
    unfold longA; rw [show bigB a.name = true from h]; rfl
  · show [AV.bool _] = [AV.bool (longA a)]
    unfold longA; rw [show bigB a.name = false from h]; rfl
theorem ixA_sum : SumOK cxIxA (LL Tryz.f122 [lsIxA]) Tryz.f122.ntmps (loopAt Tryz.f122 0).1 (loopAt Tryz.f122 0).2 lsIxA := by
  intro vs bs K hs
  unfold lsIxA at hs
  simp only at hs
  split at hs
  case h_2 => exact hs.elim
  rename_i l f m i
  rcases (show ∃ w : List At, w = l from ⟨_, rfl⟩) with ⟨l, rfl⟩
  obtain ⟨⟨rfl, rfl, rfl, hm⟩, h⟩ := hs
  refine sum_rec (σ := Nat) (fun i => [.row .attr l, .fn 101 [], .int .i64 l.length, .int .i64 (i : Nat)]) (fun _ => []) (fun i => i ≤ l.length ∧ (l.drop i).any longA = l.any longA ∧ ixL longA i (l.drop i) = ixL longA 0 l) (fun i => l.length - i) ?_ 0 ⟨Nat.zero_le _, rfl, rfl⟩
  rintro i ⟨hi, ha, he⟩ R hR
  refine Eq.mpr (vcIxAB l l.length i _) ⟨fun h1 => ?_, fun h1 => ?_⟩
  · have hlt : i < l.length := by have := of_decide_eq_true h1; omega
    rw [rd_at hlt]
    rw [List.drop_eq_getElem_cons hlt, List.any_cons] at ha
    rw [List.drop_eq_getElem_cons hlt, ixL] at he
    refine Rq.mk ⟨by omega, by omega⟩ ⟨fun h2 => ?_, fun h2 => ?_⟩
    · have h2 : longA l[i] = true := h2
      rw [if_pos h2] at he
      rw [h2, Bool.true_or] at ha
      rw [he]
      exact h.yes ha.symm
    · have h2 : longA l[i] = false := h2
      rw [h2, Bool.false_or] at ha
      rw [if_neg (by rw [h2]; decide)] at he
      rw [wrap_succ hlt hm]
      exact hR (i + 1) ⟨hlt, ha, he⟩ (by omega)
  · have hge : l.length ≤ i := by have := of_decide_eq_false h1; omega
    rw [List.drop_of_length_le hge] at ha
    exact h.no ha.symm
theorem ixA_holds : Holds 122 conIxA := conP_holds fun l _ => by
  rcases (show ∃ w : List At, w = l from ⟨_, rfl⟩) with ⟨l, rfl⟩
  refine fun_meets1 (AllH.tok (.cons at1D_holds (by kernel_rfl) .nil)) [] lsIxA (by kernel_rfl) (by kernel_rfl) ixA_sum fun hpre => Eq.mpr (vcIxAF l _) ?_
  refine ⟨fun hm => Rq.mk ⟨rfl, rfl, rfl, hm⟩ ⟨fun h => qfin rfl rfl rfl rfl, fun h => qfin rfl ?_ rfl rfl⟩⟩
  show _ = [AV.int .i64 (ixL longA 0 l)]
  rw [ixL_neg l 0 h]
theorem cfA_holds : Holds 100 conCfA := conP_holds fun l _ => by
  rcases (show ∃ w : List At, w = l from ⟨_, rfl⟩) with ⟨l, rfl⟩
  refine fun_meets0 (AllH.tok (.cons ixA_holds (by kernel_rfl) .nil)) [] (by kernel_rfl) (by kernel_rfl) fun hpre => Eq.mpr (vcCfAF l _) ?_
  refine (qfin rfl ?_ rfl rfl)
  show _ = [AV.bool (l.any longA)]
  cases h : l.any longA with
  | true => rw [decide_eq_true (show ixL longA 0 l ≥ 0 from ixL_pos l 0 h)]
  | false => rw [ixL_neg l 0 h]; rfl
theorem zeroD_holds : Holds 79 conZeroD := conP_holds fun n => by
  rcases (show ∃ w : Nd, w = n from ⟨_, rfl⟩) with ⟨n, rfl⟩
  refine fun_meets0 (AllH.tok (.cons same_holds (by kernel_rfl) .nil)) [] (by kernel_rfl) (by kernel_rfl) fun _ => Eq.mpr (vcZeroDF n _) ?_
  rw [nd_eta]
  exact qfin rfl rfl rfl rfl
theorem rigD_holds : Holds 80 conRigD := conP_holds fun n => by
  rcases (show ∃ w : Nd, w = n from ⟨_, rfl⟩) with ⟨n, rfl⟩
  refine fun_meets0 (AllH.tok (.cons chk_holds (by kernel_rfl) .nil)) [] (by kernel_rfl) (by kernel_rfl) fun hpre => Eq.mpr (vcRigDF n _) ?_
  rw [nd_eta]
  exact Rq.mk (hpre _ rfl) (qfin rfl rfl rfl rfl)
theorem atsD_holds : Holds 83 conAtsD := conP_holds fun n => by
  rcases (show ∃ w : Nd, w = n from ⟨_, rfl⟩) with ⟨n, rfl⟩
  refine fun_meets0 (AllH.tok (.cons cfA_holds (by kernel_rfl) (.cons zeroD_holds (by kernel_rfl) .nil))) [] (by kernel_rfl) (by kernel_rfl) fun _ => Eq.mpr (vcAtsDF n _) ?_
  refine ⟨fun _ => ⟨fun h1 => ⟨fun h2 => qfin rfl ?_ rfl rfl, fun h2 => qfin rfl ?_ rfl rfl⟩, fun h1 => qfin rfl ?_ rfl rfl⟩⟩ <;> show [AV.bool _] = [AV.bool (atsB n)]
  · unfold atsB; rw [show zeroB ⟨n.kind, n.space, n.name, [], n.text, n.kids⟩ = true from h1, show decide ((n.attrs.length : Int) ≤ 12) = true from h2]; rfl
  · unfold atsB; rw [show decide ((n.attrs.length : Int) ≤ 12) = false from h2, Bool.and_false]; rfl
  · unfold atsB; rw [show zeroB ⟨n.kind, n.space, n.name, [], n.text, n.kids⟩ = false from h1]; rfl
theorem wdsD_holds : Holds 86 conWdsD := conP_holds fun n => by
  rcases (show ∃ w : Nd, w = n from ⟨_, rfl⟩) with ⟨n, rfl⟩
  refine fun_meets0 (AllH.tok (.cons bigD_holds (by kernel_rfl) (.cons zeroD_holds (by kernel_rfl) .nil))) [] (by kernel_rfl) (by kernel_rfl) fun _ => Eq.mpr (vcWdsDF n _) ?_
  refine ⟨fun h1 => qfin rfl ?_ rfl rfl, fun h1 => qfin rfl ?_ rfl rfl⟩ <;> show [AV.bool _] = [AV.bool (wdsB n)]
  · unfold wdsB; rw [show zeroB ⟨n.kind, n.space, n.name, n.attrs, ⟨#[]⟩, n.kids⟩ = true from h1]; rfl
  · unfold wdsB; rw [show zeroB ⟨n.kind, n.space, n.name, n.attrs, ⟨#[]⟩, n.kids⟩ = false from h1]; rfl
theorem tokPlk : TOK cxPlk := AllH.tok (.cons zeroD_holds (by kernel_rfl) (.cons rigD_holds (by kernel_rfl) (.cons atsD_holds (by kernel_rfl) (.cons wdsD_holds (by kernel_rfl) .nil))))
theorem plIn_holds : Holds 44 conPlIn := conP_holds fun x => by
  rcases (show ∃ w : Ed, w = x from ⟨_, rfl⟩) with ⟨x, rfl⟩
  refine fun_meets0 tokPlk [] (by kernel_rfl) (by kernel_rfl) fun hpre => Eq.mpr (vcPlInF x _) ?_
  simp only [nd_eta]
  refine ⟨fun h1 => Rq.mk (hpre _ rfl) (qfin rfl ?_ rfl rfl), fun h1 => qfin rfl ?_ rfl rfl⟩ <;> show [AV.bool _] = [AV.bool (zeroB x.old && rig1 x.new)] <;> rw [h1] <;> rfl
theorem plOut_holds : Holds 47 conPlOut := conP_holds fun x => by
  rcases (show ∃ w : Ed, w = x from ⟨_, rfl⟩) with ⟨x, rfl⟩
  refine fun_meets0 tokPlk [] (by kernel_rfl) (by kernel_rfl) fun hpre => Eq.mpr (vcPlOutF x _) ?_
  simp only [nd_eta]
  refine ⟨fun h1 => Rq.mk (hpre _ rfl) (qfin rfl ?_ rfl rfl), fun h1 => qfin rfl ?_ rfl rfl⟩ <;> show [AV.bool _] = [AV.bool (zeroB x.new && rig1 x.old)] <;> rw [h1] <;> rfl
theorem plAts_holds : Holds 50 conPlAts := conP_holds fun x => by
  rcases (show ∃ w : Ed, w = x from ⟨_, rfl⟩) with ⟨x, rfl⟩
  refine fun_meets0 tokPlk [] (by kernel_rfl) (by kernel_rfl) fun hpre => Eq.mpr (vcPlAttrsF x _) ?_
  simp only [nd_eta]
  refine ⟨fun h1 => qfin rfl ?_ rfl rfl, fun h1 => qfin rfl ?_ rfl rfl⟩ <;> show [AV.bool _] = [AV.bool (atsB x.old && atsB x.new)] <;> rw [h1] <;> rfl
theorem plTxt_holds : Holds 53 conPlTxt := conP_holds fun x => by
  rcases (show ∃ w : Ed, w = x from ⟨_, rfl⟩) with ⟨x, rfl⟩
  refine fun_meets0 tokPlk [] (by kernel_rfl) (by kernel_rfl) fun hpre => Eq.mpr (vcPlTextF x _) ?_
  simp only [nd_eta]
  refine ⟨fun h1 => qfin rfl ?_ rfl rfl, fun h1 => qfin rfl ?_ rfl rfl⟩ <;> show [AV.bool _] = [AV.bool (wdsB x.old && wdsB x.new)] <;> rw [h1] <;> rfl
theorem kinds_meets (n : Int) (a : Ans) (hg : a.given = none) (hh : a.hp = []) (he : a.extra = []) (hs : a.same = []) (hc : okFn Tryz.f23 [.int .i64 n] [] a 0 = true) (h : (∀ p, a.pre = some p → p) → (n = 1 ∧ compsOf a.res = [AV.agg [.fn 44 [], .fn 45 [], .fn 46 []], .bool true]) ∨ (n = 2 ∧ compsOf a.res = [AV.agg [.fn 47 [], .fn 48 [], .fn 49 []], .bool true]) ∨
    (n = 3 ∧ compsOf a.res = [AV.agg [.fn 50 [], .fn 51 [], .fn 52 []], .bool true]) ∨ (n = 4 ∧ compsOf a.res = [AV.agg [.fn 53 [], .fn 54 [], .fn 55 []], .bool true]) ∨
    (¬ (1 ≤ n ∧ n ≤ 4) ∧ compsOf a.res = [AV.agg [.any, .any, .any], .bool false])) : Meets cx0 23 [.int .i64 n] [] a := by
  refine fun_meets0 tok0 [] (by kernel_rfl) hc fun hpre => Eq.mpr (vcKindsF n _) ?_
  rcases h hpre with ⟨rfl, g⟩ | ⟨rfl, g⟩ | ⟨rfl, g⟩ | ⟨rfl, g⟩ | ⟨hn, g⟩
  · exact ⟨fun q => absurd q (by decide), fun _ => ⟨fun q => absurd q (by decide), fun _ => Rq.mk (by decide) (qfin hg g.symm hh.symm he.symm)⟩⟩
  · exact ⟨fun q => absurd q (by decide), fun _ => ⟨fun q => absurd q (by decide), fun _ => Rq.mk (by decide) (qfin hg g.symm hh.symm he.symm)⟩⟩
  · exact ⟨fun q => absurd q (by decide), fun _ => ⟨fun q => absurd q (by decide), fun _ => Rq.mk (by decide) (qfin hg g.symm hh.symm he.symm)⟩⟩
  · exact ⟨fun q => absurd q (by decide), fun _ => ⟨fun q => absurd q (by decide), fun _ => Rq.mk (by decide) (qfin hg g.symm hh.symm he.symm)⟩⟩
  · exact ⟨fun _ => qfin hg g.symm hh.symm he.symm, fun q1 => ⟨fun _ => qfin hg g.symm hh.symm he.symm, fun q2 => absurd ⟨by have := of_decide_eq_false q1; omega, by have := of_decide_eq_false q2; omega⟩ hn⟩⟩
theorem kd1_holds : Holds 23 conKd1 := by
  intro args hp ans hc
  unfold conKd1 at hc
  split at hc
  · rename_i n
    injection hc with hc
    subst hc
    exact kinds_meets n _ rfl rfl rfl rfl (by kernel_rfl) fun hp => .inl ⟨hp _ rfl, rfl⟩
  · cases hc
theorem kd2_holds : Holds 23 conKd2 := by
  intro args hp ans hc
  unfold conKd2 at hc
  split at hc
  · rename_i n
    injection hc with hc
    subst hc
    exact kinds_meets n _ rfl rfl rfl rfl (by kernel_rfl) fun hp => .inr (.inl ⟨hp _ rfl, rfl⟩)
  · cases hc
theorem kd3_holds : Holds 23 conKd3 := by
  intro args hp ans hc
  unfold conKd3 at hc
  split at hc
  · rename_i n
    injection hc with hc
    subst hc
    exact kinds_meets n _ rfl rfl rfl rfl (by kernel_rfl) fun hp => .inr (.inr (.inl ⟨hp _ rfl, rfl⟩))
  · cases hc
theorem kd4_holds : Holds 23 conKd4 := by
  intro args hp ans hc
  unfold conKd4 at hc
  split at hc
  · rename_i n
    injection hc with hc
    subst hc
    exact kinds_meets n _ rfl rfl rfl rfl (by kernel_rfl) fun hp => .inr (.inr (.inr (.inl ⟨hp _ rfl, rfl⟩)))
  · cases hc
theorem kd0_holds : Holds 23 conKd0 := by
  intro args hp ans hc
  unfold conKd0 at hc
  split at hc
  · rename_i n
    injection hc with hc
    subst hc
    exact kinds_meets n _ rfl rfl rfl rfl (by kernel_rfl) fun hp => .inr (.inr (.inr (.inr ⟨hp _ rfl, rfl⟩)))
  · cases hc
theorem kindsK_holds : ∀ k, Holds 23 (conKindsK k)
  | 0 => kd0_holds
  | 1 => kd1_holds
  | 2 => kd2_holds
  | 3 => kd3_holds
  | 4 => kd4_holds
  | _ + 5 => kd0_holds
theorem oddI_holds : Holds 63 conOddI := conP_holds fun i => by
  rcases (show ∃ w : Int, w = i from ⟨_, rfl⟩) with ⟨i, rfl⟩
  refine fun_meets0 tok0 [] (by kernel_rfl) (by kernel_rfl) fun _ => Eq.mpr (vcOddIF i _) ⟨fun h => qfin rfl ?_ rfl rfl, fun h => qfin rfl ?_ rfl rfl⟩ <;> show [AV.bool _] = [AV.bool (oddI i)] <;> unfold oddI <;> rw [h] <;> rfl
theorem ixI_sum : SumOK cxIxI (LL Tryz.f90 [lsIxI]) Tryz.f90.ntmps (loopAt Tryz.f90 0).1 (loopAt Tryz.f90 0).2 lsIxI := by
  intro vs bs K hs
  unfold lsIxI at hs
  simp only at hs
  split at hs
  case h_2 => exact hs.elim
  rename_i l f m i
  rcases (show ∃ w : List Int, w = l from ⟨_, rfl⟩) with ⟨l, rfl⟩
  obtain ⟨⟨rfl, rfl, rfl, hm⟩, h⟩ := hs
  refine sum_rec (σ := Nat) (fun i => [.row .int l, .fn 63 [], .int .i64 l.length, .int .i64 (i : Nat)]) (fun _ => []) (fun i => i ≤ l.length ∧ (l.drop i).any oddI = l.any oddI ∧ ixL oddI i (l.drop i) = ixL oddI 0 l) (fun i => l.length - i) ?_ 0 ⟨Nat.zero_le _, rfl, rfl⟩
  rintro i ⟨hi, ha, he⟩ R hR
  refine Eq.mpr (vcIxIB l l.length i _) ⟨fun h1 => ?_, fun h1 => ?_⟩
  · have hlt : i < l.length := by have := of_decide_eq_true h1; omega
    rw [rd_get (t := .int) hlt]
    rw [List.drop_eq_getElem_cons hlt, List.any_cons] at ha
    rw [List.drop_eq_getElem_cons hlt, ixL] at he
    refine Rq.mk ⟨by omega, by omega⟩ ⟨fun h2 => ?_, fun h2 => ?_⟩
    · have h2 : oddI l[i] = true := h2
      rw [if_pos h2] at he
      rw [h2, Bool.true_or] at ha
      rw [he]
      exact h.yes ha.symm
    · have h2 : oddI l[i] = false := h2
      rw [h2, Bool.false_or] at ha
      rw [if_neg (by rw [h2]; decide)] at he
      rw [wrap_succ hlt hm]
      exact hR (i + 1) ⟨hlt, ha, he⟩ (by omega)
  · have hge : l.length ≤ i := by have := of_decide_eq_false h1; omega
    rw [List.drop_of_length_le hge] at ha
    exact h.no ha.symm
theorem ixI_holds : Holds 90 conIxI := conP_holds fun l _ => by
  rcases (show ∃ w : List Int, w = l from ⟨_, rfl⟩) with ⟨l, rfl⟩
  refine fun_meets1 (AllH.tok (.cons oddI_holds (by kernel_rfl) .nil)) [] lsIxI (by kernel_rfl) (by kernel_rfl) ixI_sum fun hpre => Eq.mpr (vcIxIF l _) ?_
  refine ⟨fun hm => Rq.mk ⟨rfl, rfl, rfl, hm⟩ ⟨fun h => qfin rfl rfl rfl rfl, fun h => qfin rfl ?_ rfl rfl⟩⟩
  show _ = [AV.int .i64 (ixL oddI 0 l)]
  rw [ixL_neg l 0 h]
theorem cfI_holds : Holds 62 conCfI := conP_holds fun l _ => by
  rcases (show ∃ w : List Int, w = l from ⟨_, rfl⟩) with ⟨l, rfl⟩
  refine fun_meets0 (AllH.tok (.cons ixI_holds (by kernel_rfl) .nil)) [] (by kernel_rfl) (by kernel_rfl) fun hpre => Eq.mpr (vcCfIF l _) ?_
  refine (qfin rfl ?_ rfl rfl)
  show _ = [AV.bool (l.any oddI)]
  cases h : l.any oddI with
  | true => rw [decide_eq_true (show ixL oddI 0 l ≥ 0 from ixL_pos l 0 h)]
  | false => rw [ixL_neg l 0 h]; rfl
theorem tokPlain (k : Nat) : TOK (cxPlain k) := AllH.tok (.cons (kindsK_holds k) (by kernel_rfl) (.cons cfI_holds (by kernel_rfl) (.cons plIn_holds (by kernel_rfl) (.cons plOut_holds (by kernel_rfl) (.cons plAts_holds (by kernel_rfl) (.cons plTxt_holds (by kernel_rfl) .nil))))))
theorem plainB_part {x : Ed} (hk : 1 ≤ x.what ∧ x.what ≤ 4) : plainB x = (decide ((x.way.length : Int) > 0) && decide ((x.way.length : Int) ≤ 41) && !x.way.any oddI && partB x) := by
  unfold plainB
  rw [decide_eq_true hk, Bool.true_and]
theorem plain_holds : Holds 30 conPlain := conP_holds fun x => by
  rcases (show ∃ w : Ed, w = x from ⟨_, rfl⟩) with ⟨x, rfl⟩
  have fin : ∀ b, plainB x = b → FinQ { pre := some (fineEd x), res := .bool (plainB x) } [AV.bool b] [] [] := fun b h => qfin rfl (by rw [h]; rfl) rfl rfl
  have a1 : ∀ h1 : decide ((x.way.length : Int) > 0) = false, plainB x = false := fun h1 => by unfold plainB; rw [h1]; simp
  have a2 : ∀ h1 : decide ((x.way.length : Int) ≤ 41) = false, plainB x = false := fun h1 => by unfold plainB; rw [h1]; simp
  have a3 : ∀ h1 : (!x.way.any oddI) = false, plainB x = false := fun h1 => by unfold plainB; rw [h1]; simp
  by_cases w1 : x.what = 1
  · refine fun_meets0 (tokPlain 1) [] (by kernel_rfl) (by kernel_rfl) fun hpre => Eq.mpr (vcPlain1F x _) ?_
    simp only [nd_eta]
    refine Rq.mk w1 ⟨fun _ => ⟨fun h1 => ⟨fun h2 => ⟨fun h3 => Rq.mk ((hpre _ rfl).1 w1) ⟨fun _ => ⟨fun _ => fin _ ?_⟩⟩, fun h3 => ⟨fun _ => ⟨fun _ => fin _ (a3 h3)⟩⟩⟩, fun h2 => ⟨fun _ => ⟨fun _ => fin _ (a2 h2)⟩⟩⟩, fun h1 => ⟨fun _ => fin _ (a1 h1)⟩⟩, fun h => nomatch h⟩
    rw [plainB_part (by omega), h1, h2, h3]
    unfold partB
    rw [if_pos w1]; rfl
  by_cases w2 : x.what = 2
  · refine fun_meets0 (tokPlain 2) [] (by kernel_rfl) (by kernel_rfl) fun hpre => Eq.mpr (vcPlain2F x _) ?_
    simp only [nd_eta]
    refine Rq.mk w2 ⟨fun _ => ⟨fun h1 => ⟨fun h2 => ⟨fun h3 => Rq.mk ((hpre _ rfl).2 w2) ⟨fun _ => ⟨fun _ => fin _ ?_⟩⟩, fun h3 => ⟨fun _ => ⟨fun _ => fin _ (a3 h3)⟩⟩⟩, fun h2 => ⟨fun _ => ⟨fun _ => fin _ (a2 h2)⟩⟩⟩, fun h1 => ⟨fun _ => fin _ (a1 h1)⟩⟩, fun h => nomatch h⟩
    rw [plainB_part (by omega), h1, h2, h3]
    unfold partB
    rw [if_neg w1, if_pos w2]; rfl
  by_cases w3 : x.what = 3
  · refine fun_meets0 (tokPlain 3) [] (by kernel_rfl) (by kernel_rfl) fun hpre => Eq.mpr (vcPlain3F x _) ?_
    simp only [nd_eta]
    refine Rq.mk w3 ⟨fun _ => ⟨fun h1 => ⟨fun h2 => ⟨fun h3 => ⟨fun _ => ⟨fun _ => fin _ ?_⟩⟩, fun h3 => ⟨fun _ => ⟨fun _ => fin _ (a3 h3)⟩⟩⟩, fun h2 => ⟨fun _ => ⟨fun _ => fin _ (a2 h2)⟩⟩⟩, fun h1 => ⟨fun _ => fin _ (a1 h1)⟩⟩, fun h => nomatch h⟩
    rw [plainB_part (by omega), h1, h2, h3]
    unfold partB
    rw [if_neg w1, if_neg w2, if_pos w3]; rfl
  by_cases w4 : x.what = 4
  · refine fun_meets0 (tokPlain 4) [] (by kernel_rfl) (by kernel_rfl) fun hpre => Eq.mpr (vcPlain4F x _) ?_
    simp only [nd_eta]
    refine Rq.mk w4 ⟨fun _ => ⟨fun h1 => ⟨fun h2 => ⟨fun h3 => ⟨fun _ => ⟨fun _ => fin _ ?_⟩⟩, fun h3 => ⟨fun _ => ⟨fun _ => fin _ (a3 h3)⟩⟩⟩, fun h2 => ⟨fun _ => ⟨fun _ => fin _ (a2 h2)⟩⟩⟩, fun h1 => ⟨fun _ => fin _ (a1 h1)⟩⟩, fun h => nomatch h⟩
    rw [plainB_part (by omega), h1, h2, h3]
    unfold partB
    rw [if_neg w1, if_neg w2, if_neg w3, if_pos w4]; rfl
  have hn : ¬ (1 ≤ x.what ∧ x.what ≤ 4) := by omega
  refine fun_meets0 (tokPlain 0) [] (by kernel_rfl) (by kernel_rfl) fun hpre => Eq.mpr (vcPlain0F x _) ?_
  refine Rq.mk hn ⟨fun h => (nomatch h), fun _ => fin _ ?_⟩
  unfold plainB
  rw [decide_eq_false hn]; rfl
theorem ck1D_holds : Holds 29 conCk1D := conP_holds fun x => by
  rcases (show ∃ w : Ed, w = x from ⟨_, rfl⟩) with ⟨x, rfl⟩
  refine fun_meets0 (AllH.tok (.cons plain_holds (by kernel_rfl) .nil)) [] (by kernel_rfl) (by kernel_rfl) fun hpre => Eq.mpr (vcCk1DF x _) ?_
  rw [ed_eta]
  exact Rq.mk (hpre _ rfl) (qfin rfl rfl rfl rfl)
theorem ixE_sum : SumOK cxIxE (LL Tryz.f61 [lsIxE]) Tryz.f61.ntmps (loopAt Tryz.f61 0).1 (loopAt Tryz.f61 0).2 lsIxE := by
  intro vs bs K hs
  unfold lsIxE at hs
  simp only at hs
  split at hs
  case h_2 => exact hs.elim
  rename_i l f m i
  rcases (show ∃ w : List Ed, w = l from ⟨_, rfl⟩) with ⟨l, rfl⟩
  obtain ⟨⟨rfl, rfl, rfl, hm, hf⟩, h⟩ := hs
  refine sum_rec (σ := Nat) (fun i => [.row .edit l, .fn 29 [], .int .i64 l.length, .int .i64 (i : Nat)]) (fun _ => []) (fun i => i ≤ l.length ∧ (l.drop i).any npB = l.any npB ∧ ixL npB i (l.drop i) = ixL npB 0 l) (fun i => l.length - i) ?_ 0 ⟨Nat.zero_le _, rfl, rfl⟩
  rintro i ⟨hi, ha, he⟩ R hR
  refine Eq.mpr (vcIxEB l l.length i _) ⟨fun h1 => ?_, fun h1 => ?_⟩
  · have hlt : i < l.length := by have := of_decide_eq_true h1; omega
    rw [rd_ed hlt, ed_eta]
    rw [List.drop_eq_getElem_cons hlt, List.any_cons] at ha
    rw [List.drop_eq_getElem_cons hlt, ixL] at he
    refine Rq.mk ⟨by omega, by omega⟩ (Rq.mk (hf _ (List.getElem_mem hlt)) ⟨fun h2 => ?_, fun h2 => ?_⟩)
    · have h2 : npB l[i] = true := h2
      rw [if_pos h2] at he
      rw [h2, Bool.true_or] at ha
      rw [he]
      exact h.yes ha.symm
    · have h2 : npB l[i] = false := h2
      rw [h2, Bool.false_or] at ha
      rw [if_neg (by rw [h2]; decide)] at he
      rw [wrap_succ hlt hm]
      exact hR (i + 1) ⟨hlt, ha, he⟩ (by omega)
  · have hge : l.length ≤ i := by have := of_decide_eq_false h1; omega
    rw [List.drop_of_length_le hge] at ha
    exact h.no ha.symm
theorem ixE_holds : Holds 61 conIxE := conP_holds fun l _ => by
  rcases (show ∃ w : List Ed, w = l from ⟨_, rfl⟩) with ⟨l, rfl⟩
  refine fun_meets1 (AllH.tok (.cons ck1D_holds (by kernel_rfl) .nil)) [] lsIxE (by kernel_rfl) (by kernel_rfl) ixE_sum fun hpre => Eq.mpr (vcIxEF l _) ?_
  refine ⟨fun hm => Rq.mk ⟨rfl, rfl, rfl, hm, hpre _ rfl⟩ ⟨fun h => qfin rfl rfl rfl rfl, fun h => qfin rfl ?_ rfl rfl⟩⟩
  show _ = [AV.int .i64 (ixL npB 0 l)]
  rw [ixL_neg l 0 h]
theorem cfE_holds : Holds 28 conCfE := conP_holds fun l _ => by
  rcases (show ∃ w : List Ed, w = l from ⟨_, rfl⟩) with ⟨l, rfl⟩
  refine fun_meets0 (AllH.tok (.cons ixE_holds (by kernel_rfl) .nil)) [] (by kernel_rfl) (by kernel_rfl) fun hpre => Eq.mpr (vcCfEF l _) ?_
  refine Rq.mk (hpre _ rfl) (qfin rfl ?_ rfl rfl)
  show _ = [AV.bool (l.any npB)]
  cases h : l.any npB with
  | true => rw [decide_eq_true (show ixL npB 0 l ≥ 0 from ixL_pos l 0 h)]
  | false => rw [ixL_neg l 0 h]; rfl
theorem ckD_holds : Holds 13 conCkD := conP_holds fun s => by
  rcases (show ∃ w : List Ed, w = s from ⟨_, rfl⟩) with ⟨s, rfl⟩
  refine fun_meets0 (AllH.tok (.cons cfE_holds (by kernel_rfl) .nil)) [] (by kernel_rfl) (by kernel_rfl) fun hpre => Eq.mpr (vcCkDF s _) ?_
  refine ⟨fun _ => ⟨fun h1 => qfin rfl ?_ rfl rfl, fun h1 => Rq.mk (hpre _ rfl) ⟨fun h2 => qfin rfl ?_ rfl rfl, fun h2 => qfin rfl ?_ rfl rfl⟩⟩⟩ <;> show [AV.int .i64 _] = [AV.int .i64 (dchkS s)] <;> unfold dchkS
  · rw [if_pos (of_decide_eq_true h1)]
  · rw [if_neg (of_decide_eq_false h1), if_pos h2]
  · rw [if_neg (of_decide_eq_false h1), if_neg (by rw [h2]; decide)]
theorem numD_holds : Holds 22 conNumD := conP_holds fun n => by
  rcases (show ∃ w : Int, w = n from ⟨_, rfl⟩) with ⟨n, rfl⟩
  exact fun_meets0 (AllH.tok (.cons numQ_holds (by kernel_rfl) .nil)) [] (by kernel_rfl) (by kernel_rfl) fun _ => Eq.mpr (vcNumDF n _) (qfin rfl rfl rfl rfl)
theorem tokJnL : TOK cxJnQ := AllH.tok (.cons numQ_holds (by kernel_rfl) (.cons write_holds (by kernel_rfl) (.cons string_holds (by kernel_rfl) .nil)))
theorem jnL_sum : SumOK cxJnQ (LL Tryz.f105 [lsJnL]) Tryz.f105.ntmps (loopAt Tryz.f105 0).1 (loopAt Tryz.f105 0).2 lsJnL := by
  intro vs bs K hs
  unfold lsJnL at hs
  simp only at hs
  split at hs
  case h_2 => exact hs.elim
  rename_i l m i t
  rcases (show ∃ w : List ByteArray, w = l from ⟨_, rfl⟩) with ⟨l, rfl⟩
  obtain ⟨⟨rfl, rfl, ht, hm⟩, h⟩ := hs
  have ht : t = bk [] := kb_inj (List.eq_nil_of_length_eq_zero (by rw [kb_size]; exact ht))
  subst ht
  have hj := jnT_le l
  have hmx : maxSl = 140737488355328 := rfl
  refine sum_rec (σ := Nat × ByteArray) (fun s => [.ptr 0 0, .row .str l, .int .i64 l.length, .int .i64 (s.1 : Nat)]) (fun s => [.bld s.2]) (fun s => s.1 ≤ l.length ∧ s.2 ++ bk (jnT (l.drop s.1)) = bk (jnT l) ∧ jnOK (l.drop s.1) = jnOK l) (fun s => l.length - s.1) ?_ (0, bk []) ⟨Nat.zero_le _, kb_inj (by rw [kb_app, kb_bk, kb_bk, List.drop_zero]; rfl), rfl⟩
  rintro ⟨i, b⟩ ⟨hi, he, ho⟩ R hR
  dsimp only at hi he ho hR ⊢
  refine Eq.mpr (vcJnLB b l l.length i _) ⟨fun h1 => ?_, fun h1 => ?_⟩
  · have hlt : i < l.length := by have := of_decide_eq_true h1; omega
    have hg : rd .str l (i : Int) = l[i] := rd_get (t := .str) hlt
    rw [hg]
    rw [List.drop_eq_getElem_cons hlt] at he ho
    refine Rq.mk ⟨by omega, by omega⟩ ⟨fun _ => ⟨fun h2 => ?_, fun h2 => ⟨fun _ => ?_⟩⟩⟩
    · have h2 : bigB l[i] = true := h2
      have h3 : jnOK l = false := by rw [← ho]; unfold jnOK; rw [List.all_cons, h2]; rfl
      rw [jnT, if_pos h2] at he
      have : b = bk (jnT l) := by rw [← he]; apply kb_inj; rw [kb_app, kb_bk, List.append_nil]
      rw [this]
      exact h.no h3
    · have h2 : bigB l[i] = false := h2
      have h4 := bigB_no h2
      rw [jnT, if_neg (by rw [h2]; decide)] at he
      have hz := congrArg ByteArray.size he
      rw [ByteArray.size_append, bk_size, bk_size, List.length_append] at hz
      have e : numS ((l[i]).size : Int) ++ l[i] = bk (txtL (kb l[i])) := by rw [txtQ_eq h4]; unfold txtQ; rw [if_pos h4]
      have h5 := numS_le ((l[i]).size : Int)
      have h6 : ByteArray.size l[i] ≤ 65536 := h4
      refine Rq.mk (by omega) ?_
      have e' : numS (↑(ByteArray.size l[i]) : Int) ++ l[i] = bk (txtL (kb l[i])) := e
      rw [e']
      refine Rq.mk (by rw [bk_size]; omega) ?_
      rw [wrap_succ hlt (by omega)]
      refine hR (i + 1, b ++ bk (txtL (kb l[i]))) ⟨hlt, ?_, ?_⟩ (by dsimp only; omega)
      · dsimp only
        rw [← he]
        apply kb_inj
        simp only [kb_app, kb_bk, List.append_assoc]
      · dsimp only
        rw [← ho]
        unfold jnOK
        rw [List.all_cons, h2]; rfl
  · have hge : l.length ≤ i := by have := of_decide_eq_false h1; omega
    rw [List.drop_of_length_le hge] at he ho
    have : b = bk (jnT l) := by rw [← he]; apply kb_inj; rw [kb_app, kb_bk]; exact (List.append_nil _).symm
    rw [this]
    exact h.yes ho.symm
theorem jnL_holds : Holds 105 conJnL := conP_holds fun l => by
  rcases (show ∃ w : List ByteArray, w = l from ⟨_, rfl⟩) with ⟨l, rfl⟩
  refine fun_meets1 tokJnL [] lsJnL (by kernel_rfl) (by kernel_rfl) jnL_sum fun hpre => Eq.mpr (vcJnLF l _) ?_
  have hl : l.length ≤ 1000000 := hpre _ rfl
  have hj := jnT_le l
  have hmx : maxSl = 140737488355328 := rfl
  refine ⟨fun _ => Rq.mk ⟨rfl, rfl, rfl, hl⟩ ⟨fun h => Rq.mk (by rw [bk_size]; omega) (qfin rfl ?_ rfl rfl), fun h => qfin rfl ?_ rfl rfl⟩⟩ <;> show _ = [AV.str (jnS l), AV.int .i64 (jnE l)] <;> unfold jnS jnE
  · rw [if_pos h, if_pos h, (jn_eq h).1]
  · rw [if_neg (by rw [h]; decide), if_neg (by rw [h]; decide)]
theorem lst_holds : Holds 103 conLst := conP_holds fun l => by
  rcases (show ∃ w : List ByteArray, w = l from ⟨_, rfl⟩) with ⟨l, rfl⟩
  refine fun_meets0 (AllH.tok (.cons jnL_holds (by kernel_rfl) (.cons numQ_holds (by kernel_rfl) .nil))) [] (by kernel_rfl) (by kernel_rfl) fun _ => Eq.mpr (vcLstF l _) ?_
  have hmx : maxSl = 140737488355328 := rfl
  have fin : ∀ s e, lsS l = s → lsE l = e → FinQ { res := .tup [.str (lsS l), .int .i64 (lsE l)] } [AV.str s, AV.int .i64 e] [] [] := fun s e h1 h2 => qfin rfl (by rw [h1, h2]; rfl) rfl rfl
  refine ⟨fun _ => ⟨fun h1 => fin _ _ ?_ ?_, fun h1 => Rq.mk ?_ ⟨fun h2 => fin _ _ ?_ ?_, fun h2 => ⟨fun _ => Rq.mk ?_ (fin _ _ ?_ ?_)⟩⟩⟩⟩
  · have h1 := of_decide_eq_true h1
    unfold lsS lsE; rw [if_pos h1, if_neg (by decide)]
  · have h1 := of_decide_eq_true h1
    unfold lsE; rw [if_pos h1]
  · have h1 := of_decide_eq_false h1; omega
  · have h1 := of_decide_eq_false h1
    have h2 : ¬ jnE l = 0 := by simpa using h2
    unfold lsS lsE; rw [if_neg h1, if_neg h2]
  · have h1 := of_decide_eq_false h1
    unfold lsE; rw [if_neg h1]
  · have h1 := of_decide_eq_false h1
    have hj := jnT_le l
    have h2 : jnE l = 0 := by simpa using h2
    have h3 : jnOK l = true := by unfold jnE at h2; split at h2; assumption; cases h2
    have h5 := numS_le (l.length : Int)
    unfold jnS
    rw [if_pos h3, bk_size, ← (jn_eq h3).1]; omega
  · have h1 := of_decide_eq_false h1
    have h2 : jnE l = 0 := by simpa using h2
    have h3 : jnOK l = true := by unfold jnE at h2; split at h2; assumption; cases h2
    unfold lsS lsE jnS
    rw [if_neg h1, if_pos h2, if_pos h3, numS_nat (by omega)]
    apply kb_inj
    rw [kb_app, kb_bk, kb_bk, kb_bk]; rfl
  · have h1 := of_decide_eq_false h1
    have h2 : jnE l = 0 := by simpa using h2
    unfold lsE; rw [if_neg h1, h2]
theorem lstD_sum : SumOK cxLstD (LL Tryz.f84 [lsLstD]) Tryz.f84.ntmps (loopAt Tryz.f84 0).1 (loopAt Tryz.f84 0).2 lsLstD := by
  intro vs bs K hs
  unfold lsLstD at hs
  simp only at hs
  split at hs
  case h_2 => exact hs.elim
  rename_i l m i o
  rcases (show ∃ w : List At, w = l from ⟨_, rfl⟩) with ⟨l, rfl⟩
  obtain ⟨⟨rfl, rfl, ho, hm⟩, h⟩ := hs
  obtain rfl : o = [] := List.eq_nil_of_length_eq_zero ho
  have hmx : maxSl = 140737488355328 := rfl
  refine sum_rec (σ := Nat × List ByteArray) (fun s => [.own 0 0, .row .attr l, .int .i64 l.length, .int .i64 (s.1 : Nat)]) (fun s => [.rowb 0 .str s.2]) (fun s => s.1 ≤ l.length ∧ s.2 ++ flA (l.drop s.1) = flA l ∧ s.2.length = 2 * s.1) (fun s => l.length - s.1) ?_ (0, []) ⟨Nat.zero_le _, rfl, rfl⟩
  rintro ⟨i, b⟩ ⟨hi, he, hb⟩ R hR
  dsimp only at hi he hb hR ⊢
  refine Eq.mpr (vcLstDB b l l.length i _) ⟨fun h1 => ?_, fun h1 => ?_⟩
  · have hlt : i < l.length := by have := of_decide_eq_true h1; omega
    rw [rd_at hlt]
    rw [List.drop_eq_getElem_cons hlt, flA] at he
    refine Rq.mk ⟨by omega, by omega⟩ (Rq.mk (by simp only [List.length_cons, List.length_nil]; omega) ?_)
    rw [wrap_succ hlt (by omega)]
    refine hR (i + 1, b ++ [l[i].name, l[i].value]) ⟨hlt, ?_, ?_⟩ (by dsimp only; omega)
    · dsimp only
      rw [List.append_assoc]; exact he
    · dsimp only
      rw [List.length_append]; simp only [List.length_cons, List.length_nil]; omega
  · have hge : l.length ≤ i := by have := of_decide_eq_false h1; omega
    rw [List.drop_of_length_le hge] at he
    have : b = flA l := by rw [← he]; exact (List.append_nil _).symm
    rw [this]
    exact h
theorem lstD_holds : Holds 84 conLstD := conP_holds fun l => by
  rcases (show ∃ w : List At, w = l from ⟨_, rfl⟩) with ⟨l, rfl⟩
  refine fun_meets1 (AllH.tok (.cons lst_holds (by kernel_rfl) .nil)) [] lsLstD (by kernel_rfl) (by kernel_rfl) lstD_sum fun hpre => Eq.mpr (vcLstDF l _) ?_
  exact ⟨fun _ => Rq.mk ⟨rfl, rfl, rfl, hpre _ rfl⟩ (qfin rfl rfl rfl rfl)⟩
theorem nodeD_holds : Holds 81 conNodeD := conP_holds fun n => by
  rcases (show ∃ w : Nd, w = n from ⟨_, rfl⟩) with ⟨n, rfl⟩
  refine fun_meets0 (AllH.tok (.cons byts_holds (by kernel_rfl) (.cons txQ_holds (by kernel_rfl) .nil))) [] (by kernel_rfl) (by kernel_rfl) fun hpre => Eq.mpr (vcNodeDF n _) ?_
  simp only [nd_eta]
  refine Rq.mk (hpre _ rfl) ⟨fun h => qfin rfl ?_ rfl rfl, fun h => qfin rfl ?_ rfl rfl⟩ <;> show _ = [AV.str (ndQ n), AV.int .i64 (ndE n)] <;> unfold ndQ ndE
  · have h : ¬ bytE [n] = 0 := by simpa using h
    rw [if_neg h, if_neg h]
  · have h : bytE [n] = 0 := by simpa using h
    rw [if_pos h, if_pos h]
theorem tokWrk : TOK cxWrk := AllH.tok (.cons nodeD_holds (by kernel_rfl) (.cons lstD_holds (by kernel_rfl) (.cons txQ_holds (by kernel_rfl) .nil)))
theorem lsS_le (l : List ByteArray) : (lsS l).size ≤ 7 + l.length * 65543 := by
  unfold lsS
  split
  · rename_i h
    unfold lsE at h
    split at h
    · cases h
    rename_i h1
    have h3 : jnOK l = true := by unfold jnE at h; split at h; assumption; cases h
    rw [bk_size]
    exact lstL_le (by omega) (jn_eq h3).2
  · exact Nat.zero_le _
theorem wrIn_holds : Holds 45 conWrIn := conP_holds fun x => by
  rcases (show ∃ w : Ed, w = x from ⟨_, rfl⟩) with ⟨x, rfl⟩
  refine fun_meets0 tokWrk [] (by kernel_rfl) (by kernel_rfl) fun hpre => Eq.mpr (vcWrInF x _) ?_
  simp only [nd_eta]
  exact Rq.mk (hpre _ rfl) (qfin rfl rfl rfl rfl)
theorem wrOut_holds : Holds 48 conWrOut := conP_holds fun x => by
  rcases (show ∃ w : Ed, w = x from ⟨_, rfl⟩) with ⟨x, rfl⟩
  refine fun_meets0 tokWrk [] (by kernel_rfl) (by kernel_rfl) fun hpre => Eq.mpr (vcWrOutF x _) ?_
  simp only [nd_eta]
  exact Rq.mk (hpre _ rfl) (qfin rfl rfl rfl rfl)
theorem wrAts_holds : Holds 51 conWrAts := conP_holds fun x => by
  rcases (show ∃ w : Ed, w = x from ⟨_, rfl⟩) with ⟨x, rfl⟩
  refine fun_meets0 tokWrk [] (by kernel_rfl) (by kernel_rfl) fun hpre => Eq.mpr (vcWrAttrsF x _) ?_
  obtain ⟨h1, h2⟩ : x.old.attrs.length ≤ 1000 ∧ x.new.attrs.length ≤ 1000 := hpre _ rfl
  have e1 := lsS_le (flA x.old.attrs)
  have e2 := lsS_le (flA x.new.attrs)
  rw [fl_len] at e1 e2
  have hmx : maxSl = 140737488355328 := rfl
  exact Rq.mk (Nat.le_trans h1 (by decide)) (Rq.mk (Nat.le_trans h2 (by decide)) (Rq.mk (by omega) (qfin rfl rfl rfl rfl)))
theorem txtQ_cap (s : ByteArray) : (txtQ s).size ≤ 65543 := by
  unfold txtQ
  split
  · rename_i h
    rw [bk_size]
    have := txtL_len6 h
    omega
  · exact Nat.zero_le _
theorem wrTxt_holds : Holds 54 conWrTxt := conP_holds fun x => by
  rcases (show ∃ w : Ed, w = x from ⟨_, rfl⟩) with ⟨x, rfl⟩
  refine fun_meets0 tokWrk [] (by kernel_rfl) (by kernel_rfl) fun hpre => Eq.mpr (vcWrTextF x _) ?_
  have e1 := txtQ_cap x.old.text
  have e2 := txtQ_cap x.new.text
  have hmx : maxSl = 140737488355328 := rfl
  exact Rq.mk (by omega) (qfin rfl rfl rfl rfl)
end Go.Proofs.YtnhipiedjekkpaaGreatDoor.AX
end
section
namespace Go.Proofs.YtnhipiedjekkpaaGreatDoor.AXP
open Go Go.Proofs.YtnhipiedjekkpaaGreatDoor.AX
/-- Texts that are taken off up to the first that is none. -/
def stpT : Nat → List UInt8 → List ByteArray
  | 0, _ => []
  | c + 1, b => match takeT b with
    | none => []
    | some (x, r) => bk x :: stpT c r
def txsOK (c : Nat) (b : List UInt8) : Bool := (pTxs c b).isSome
def txsV (c : Nat) (b : List UInt8) : List ByteArray := match pTxs c b with | some (l, _) => l | none => []
def txsR (c : Nat) (b : List UInt8) : ByteArray := match pTxs c b with | some (_, r) => bk r | none => ⟨#[]⟩
def dlOK (b : ByteArray) : Bool := !(dDel ⟨b, false⟩).2.bad && eqS (dDel ⟨b, false⟩).2.b ⟨#[]⟩ && (dchkS (dDel ⟨b, false⟩).1 == 0)
def dlL (b : ByteArray) : List Ed := if dlOK b = true then (dDel ⟨b, false⟩).1 else []
def dlE (b : ByteArray) : Int := if dlOK b = true then 0 else 4
end Go.Proofs.YtnhipiedjekkpaaGreatDoor.AXP
namespace Go.Proofs.YtnhipiedjekkpaaGreatDoor.AX
open Go AXP
noncomputable def cxTkL : Cx := cxT (tabLook [(68, conTkN), (106, conTkT)])
def lsTkL : LS where
  keep := [(8, .own .str), (6, .as), (22, .as), (23, .as)]
  left := [(8, .own .str), (6, .as), (2, .as), (3, .as), (4, .as)]
  sum := fun vs bs K => match vs, bs with
    | [.own 0 0, .str r, .int .i64 n, .int .i64 i], [.rowb 0 .str o] => Rq (o.length = 0 ∧ i = 0 ∧ 0 ≤ n ∧ n ≤ 1000)
      (Br (txsOK n.toNat (kb r)) (K (.exit 0) [.own 0 0, .str (txsR n.toNat (kb r)), .any, .any, .any] [.rowb 0 .str (txsV n.toNat (kb r))])
        (K .ret [.own 0 0, .str ⟨#[]⟩, .nil, .str ⟨#[]⟩, .int .i64 4] [.rowb 0 .str (stpT n.toNat (kb r))]))
    | _, _ => False
def conTkL : Con := conP [.str] fun (b : ByteArray) => { res := .tup [.row .str (tlL b), .str (tlR b), .int .i64 (tlE b)] }
noncomputable def cxDRd : Cx := cxT (tabLook [(68, conTkN), (106, conTkT), (104, conTkL)])
def conDNum : Con := fun args hp => match args, hp with
  | [.ptr 0 0, .int .i64 m], [.box [.str b, .bool e]] => some { res := .int .i64 (dNum m ⟨b, e⟩).1, hp := [.box [.str (dNum m ⟨b, e⟩).2.b, .bool (dNum m ⟨b, e⟩).2.bad]] }
  | _, _ => none
def conDTxt : Con := fun args hp => match args, hp with
  | [.ptr 0 0], [.box [.str b, .bool e]] => some { res := .str (dTxt ⟨b, e⟩).1, hp := [.box [.str (dTxt ⟨b, e⟩).2.b, .bool (dTxt ⟨b, e⟩).2.bad]] }
  | _, _ => none
noncomputable def cxDNode : Cx := cxT (tabLook [(88, conDTxt), (99, conReadN)])
def conDNode : Con := fun args hp => match args, hp with
  | [.ptr 0 0], [.box [.str b, .bool e]] => some { res := .agg (nodeL (dNode ⟨b, e⟩).1), hp := [.box [.str (dNode ⟨b, e⟩).2.b, .bool (dNode ⟨b, e⟩).2.bad]] }
  | _, _ => none
def lsDAts : LS where
  keep := [(0, .as), (6, .own .attr), (3, .as), (7, .as)]
  left := [(0, .as), (6, .own .attr)]
  sum := fun vs bs K => match vs, bs with
    | [.ptr 0 0, .own 1 0, .row .str l, .int .i64 i], [.box [.str b, .bool e], .rowb 0 .attr o] => Rq (i = 0 ∧ o.length = 0 ∧ l.length % 2 = 0 ∧ l.length ≤ 1000) (K (.exit 0) [.ptr 0 0, .own 1 0] [.box [.str b, .bool e], .rowb 0 .attr (prs l)])
    | _, _ => False
def conDAts : Con := fun args hp => match args, hp with
  | [.ptr 0 0], [.box [.str b, .bool e]] => some { res := .row .attr (dAts ⟨b, e⟩).1, hp := [.box [.str (dAts ⟨b, e⟩).2.b, .bool (dAts ⟨b, e⟩).2.bad]] }
  | _, _ => none
noncomputable def cxDRk : Cx := cxT (tabLook [(82, conDNode), (85, conDAts), (88, conDTxt)])
def conRdIn : Con := fun args hp => match args, hp with
  | [.ptr 0 0, .ptr 1 0], [.box [.str b, .bool e], .box [.int .i64 k, .nil, .int .i64 o0, .int .i64 o1, .str o2, .nil, .str o4, .nil, .int .i64 n0, .int .i64 n1, .str n2, .nil, .str n4, .nil]] =>
    some { res := .tup [], hp := [.box [.str (dNode ⟨b, e⟩).2.b, .bool (dNode ⟨b, e⟩).2.bad], .box (.int .i64 k :: .nil :: ([.int .i64 o0, .int .i64 o1, .str o2, .nil, .str o4, .nil] ++ nodeL (dNode ⟨b, e⟩).1))] }
  | [.ptr 0 0, .ptr 1 0], [.box [.str b, .bool e], .box [.int .i64 k, .own 2 0, .int .i64 o0, .int .i64 o1, .str o2, .nil, .str o4, .nil, .int .i64 n0, .int .i64 n1, .str n2, .nil, .str n4, .nil], .rowb 0 .int w] =>
    some { res := .tup [], hp := [.box [.str (dNode ⟨b, e⟩).2.b, .bool (dNode ⟨b, e⟩).2.bad], .box (.int .i64 k :: .own 2 0 :: ([.int .i64 o0, .int .i64 o1, .str o2, .nil, .str o4, .nil] ++ nodeL (dNode ⟨b, e⟩).1)), .rowb 0 .int w] }
  | _, _ => none
def conRdOut : Con := fun args hp => match args, hp with
  | [.ptr 0 0, .ptr 1 0], [.box [.str b, .bool e], .box [.int .i64 k, .nil, .int .i64 o0, .int .i64 o1, .str o2, .nil, .str o4, .nil, .int .i64 n0, .int .i64 n1, .str n2, .nil, .str n4, .nil]] =>
    some { res := .tup [], hp := [.box [.str (dNode ⟨b, e⟩).2.b, .bool (dNode ⟨b, e⟩).2.bad], .box (.int .i64 k :: .nil :: (nodeL (dNode ⟨b, e⟩).1 ++ [.int .i64 n0, .int .i64 n1, .str n2, .nil, .str n4, .nil]))] }
  | [.ptr 0 0, .ptr 1 0], [.box [.str b, .bool e], .box [.int .i64 k, .own 2 0, .int .i64 o0, .int .i64 o1, .str o2, .nil, .str o4, .nil, .int .i64 n0, .int .i64 n1, .str n2, .nil, .str n4, .nil], .rowb 0 .int w] =>
    some { res := .tup [], hp := [.box [.str (dNode ⟨b, e⟩).2.b, .bool (dNode ⟨b, e⟩).2.bad], .box (.int .i64 k :: .own 2 0 :: (nodeL (dNode ⟨b, e⟩).1 ++ [.int .i64 n0, .int .i64 n1, .str n2, .nil, .str n4, .nil])), .rowb 0 .int w] }
  | _, _ => none
def conRdAttrs : Con := fun args hp => match args, hp with
  | [.ptr 0 0, .ptr 1 0], [.box [.str b, .bool e], .box [.int .i64 k, .nil, .int .i64 o0, .int .i64 o1, .str o2, .nil, .str o4, .nil, .int .i64 n0, .int .i64 n1, .str n2, .nil, .str n4, .nil]] =>
    some { res := .tup [], hp := [.box [.str (dAts (dAts ⟨b, e⟩).2).2.b, .bool (dAts (dAts ⟨b, e⟩).2).2.bad], .box (.int .i64 k :: .nil :: ([.int .i64 o0, .int .i64 o1, .str o2, .row .attr (dAts ⟨b, e⟩).1, .str o4, .nil, .int .i64 n0, .int .i64 n1, .str n2, .row .attr (dAts (dAts ⟨b, e⟩).2).1, .str n4, .nil]))] }
  | [.ptr 0 0, .ptr 1 0], [.box [.str b, .bool e], .box [.int .i64 k, .own 2 0, .int .i64 o0, .int .i64 o1, .str o2, .nil, .str o4, .nil, .int .i64 n0, .int .i64 n1, .str n2, .nil, .str n4, .nil], .rowb 0 .int w] =>
    some { res := .tup [], hp := [.box [.str (dAts (dAts ⟨b, e⟩).2).2.b, .bool (dAts (dAts ⟨b, e⟩).2).2.bad], .box (.int .i64 k :: .own 2 0 :: ([.int .i64 o0, .int .i64 o1, .str o2, .row .attr (dAts ⟨b, e⟩).1, .str o4, .nil, .int .i64 n0, .int .i64 n1, .str n2, .row .attr (dAts (dAts ⟨b, e⟩).2).1, .str n4, .nil])), .rowb 0 .int w] }
  | _, _ => none
def conRdText : Con := fun args hp => match args, hp with
  | [.ptr 0 0, .ptr 1 0], [.box [.str b, .bool e], .box [.int .i64 k, .nil, .int .i64 o0, .int .i64 o1, .str o2, .nil, .str o4, .nil, .int .i64 n0, .int .i64 n1, .str n2, .nil, .str n4, .nil]] =>
    some { res := .tup [], hp := [.box [.str (dTxt (dTxt ⟨b, e⟩).2).2.b, .bool (dTxt (dTxt ⟨b, e⟩).2).2.bad], .box (.int .i64 k :: .nil :: ([.int .i64 o0, .int .i64 o1, .str o2, .nil, .str (dTxt ⟨b, e⟩).1, .nil, .int .i64 n0, .int .i64 n1, .str n2, .nil, .str (dTxt (dTxt ⟨b, e⟩).2).1, .nil]))] }
  | [.ptr 0 0, .ptr 1 0], [.box [.str b, .bool e], .box [.int .i64 k, .own 2 0, .int .i64 o0, .int .i64 o1, .str o2, .nil, .str o4, .nil, .int .i64 n0, .int .i64 n1, .str n2, .nil, .str n4, .nil], .rowb 0 .int w] =>
    some { res := .tup [], hp := [.box [.str (dTxt (dTxt ⟨b, e⟩).2).2.b, .bool (dTxt (dTxt ⟨b, e⟩).2).2.bad], .box (.int .i64 k :: .own 2 0 :: ([.int .i64 o0, .int .i64 o1, .str o2, .nil, .str (dTxt ⟨b, e⟩).1, .nil, .int .i64 n0, .int .i64 n1, .str n2, .nil, .str (dTxt (dTxt ⟨b, e⟩).2).1, .nil])), .rowb 0 .int w] }
  | _, _ => none
noncomputable def cxDEd (k : Nat) : Cx := cxT (tabLook [(32, conDNum), (23, conKindsK k), (46, conRdIn), (49, conRdOut), (52, conRdAttrs), (55, conRdText)])
def lsDEd : LS where
  keep := [(0, .as), (2, .as), (3, .as), (4, .as)]
  left := [(0, .as), (2, .as), (3, .as)]
  sum := fun vs bs K => match vs, bs with
    | [.ptr 0 0, .ptr 1 0, .ptr 2 0, .int .i64 n], [.box [.str b, .bool e], .box [.int .i64 z, .nil, .int .i64 o0, .int .i64 o1, .str o2, .nil, .str o4, .nil, .int .i64 n0, .int .i64 n1, .str n2, .nil, .str n4, .nil], .box [.int .i64 k, .nil, .int .i64 p0, .int .i64 p1, .str p2, .nil, .str p4, .nil, .int .i64 q0, .int .i64 q1, .str q2, .nil, .str q4, .nil]] =>
      Rq (0 ≤ n ∧ n ≤ 41) (Br ((dWay n.toNat ⟨b, e⟩).1.length == 0)
        (K (.exit 0) [.ptr 0 0, .ptr 1 0, .ptr 2 0] [.box [.str (dWay n.toNat ⟨b, e⟩).2.b, .bool (dWay n.toNat ⟨b, e⟩).2.bad], .box [.int .i64 z, .nil, .int .i64 o0, .int .i64 o1, .str o2, .nil, .str o4, .nil, .int .i64 n0, .int .i64 n1, .str n2, .nil, .str n4, .nil], .box [.int .i64 k, .nil, .int .i64 p0, .int .i64 p1, .str p2, .nil, .str p4, .nil, .int .i64 q0, .int .i64 q1, .str q2, .nil, .str q4, .nil]])
        (K (.exit 0) [.ptr 0 0, .ptr 1 0, .ptr 2 0] [.box [.str (dWay n.toNat ⟨b, e⟩).2.b, .bool (dWay n.toNat ⟨b, e⟩).2.bad], .box [.int .i64 z, .nil, .int .i64 o0, .int .i64 o1, .str o2, .nil, .str o4, .nil, .int .i64 n0, .int .i64 n1, .str n2, .nil, .str n4, .nil], .box [.int .i64 k, .own 3 0, .int .i64 p0, .int .i64 p1, .str p2, .nil, .str p4, .nil, .int .i64 q0, .int .i64 q1, .str q2, .nil, .str q4, .nil], .rowb 0 .int (dWay n.toNat ⟨b, e⟩).1]))
    | _, _ => False
def conDEd : Con := fun args hp => match args, hp with
  | [.ptr 0 0], [.box [.str b, .bool e]] => some { res := .agg (editL (dEd ⟨b, e⟩).1), hp := [.box [.str (dEd ⟨b, e⟩).2.b, .bool (dEd ⟨b, e⟩).2.bad]] }
  | _, _ => none
noncomputable def cxDRead : Cx := cxT (tabLook [(32, conDNum), (33, conDEd), (13, conCkD)])
def lsDRead : LS where
  keep := [(4, .as), (5, .own .edit), (6, .as)]
  left := [(4, .as), (5, .own .edit)]
  sum := fun vs bs K => match vs, bs with
    | [.ptr 0 0, .own 1 0, .int .i64 n], [.box [.str b, .bool e], .rowb 0 .edit o] => Rq (o.length = 0 ∧ 0 ≤ n ∧ n ≤ 400)
      (K (.exit 0) [.ptr 0 0, .own 1 0] [.box [.str (dEds n.toNat ⟨b, e⟩).2.b, .bool (dEds n.toNat ⟨b, e⟩).2.bad], .rowb 0 .edit (dEds n.toNat ⟨b, e⟩).1])
    | _, _ => False
def conDRead : Con := conP [.str] fun (b : ByteArray) => { res := .tup [.row .edit (dlL b), .int .i64 (dlE b)] }
end Go.Proofs.YtnhipiedjekkpaaGreatDoor.AX
end
