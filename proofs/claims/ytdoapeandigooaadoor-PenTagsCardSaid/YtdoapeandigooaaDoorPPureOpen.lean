/- Tags, plainly: a tag's text, or why it has none: the program's and the document's. -/
import Derived.Test.YtdoapeandigooaaDoorPPurePen
import Derived.Test.YtdoapeandigooaaDoorP2
import Derived.Test.YtdoapeandigooaaDoorP8
import Derived.Test.YtdoapeandigooaaDoorP9
namespace Go.Proofs.YtdoapeandigooaaDoor.P
open Go.RowKit Go.Proofs.YtdoapeandigooaaDoorW.PrintWords Go.Proofs.YtdoapeandigooaaDoorW.PrintLast
set_option linter.unusedSimpArgs false

abbrev At6 := S48
theorem rd6 {l : List At6} {i : Nat} (h : i < l.length) : rd_T48 l (i : Int) = l[i] := by
  unfold rd_T48
  rw [Int.toNat_natCast, List.getD_eq_getElem?_getD, List.getElem?_eq_getElem h]; rfl
def okA (l : List At6) : Bool := l.all fun a => name8 a.f0 && goodB a.f1
def attrT (a : At6) : ByteArray := attrS a.f0 (strOfNums (escS true false (bl a.f1)))
def catA : List At6 → ByteArray
  | [] => ⟨#[]⟩
  | a :: t => attrT a ++ catA t
/-- Small attributes. -/
def Small (l : List At6) : Prop := l.length ≤ 40 ∧ ∀ a ∈ l, a.f0.size ≤ 200 ∧ a.f1.size ≤ 1000
theorem esc_size {s : ByteArray} (v : Bool) : (strOfNums (escS v false (bl s))).size ≤ 6 * s.size := by
  rw [size_nums]
  have := escS_len v false (bl s)
  rwa [bl_length] at this
theorem attr_size {a : At6} (h : a.f0.size ≤ 200 ∧ a.f1.size ≤ 1000) : (attrT a).size ≤ 7000 := by
  unfold attrT
  rw [attrS_size]
  have := esc_size (s := a.f1) true
  omega
def Dup (l : List At6) (i : Nat) : Prop := ∃ (a b : Nat) (ha : a < l.length) (hb : b < a), i ≤ a ∧ (l[a]).f0.toList = (l[b]'(by omega)).f0.toList
theorem twice_l1 {l : List At6} (hl : l.length ≤ 1000) {i : Nat} (hi : i < l.length) {r : Bool}
    (hit : (∃ (b : Nat) (hb : b < i), (l[i]).f0.toList = (l[b]'(by omega)).f0.toList) → r = true)
    (next : (∀ (b : Nat) (hb : b < i), ¬ (l[i]).f0.toList = (l[b]'(by omega)).f0.toList) → Ev (fun k => pen_twice.l0 k l (l.length : Int) ((i + 1 : Nat) : Int)) r) :
    ∀ d k : Nat, d + k = i → (∀ (b : Nat) (hb : b < i), b < k → ¬ (l[i]).f0.toList = (l[b]'(by omega)).f0.toList) → Ev (fun n => pen_twice.l1 n l (i : Int) (l.length : Int) (i : Int) (i : Int) (k : Int)) r
  | 0, k, h, ha => by
    have e1 : wrap64 ((i : Int) + 1) = ((i + 1 : Nat) : Int) := by rw [w64 (by omega) (by omega)]; rfl
    refine Ev.step (fun k => by rw [pen_twice.l1]) ?_
    rw [e1]
    exact Ev.ite_neg (by omega) (next fun b hb => ha b hb (by omega))
  | d + 1, k, h, ha => by
    have hk : k < i := by omega
    have e1 : wrap64 ((k : Int) + 1) = ((k + 1 : Nat) : Int) := by rw [w64 (by omega) (by omega)]; rfl
    refine Ev.step (fun k => by rw [pen_twice.l1]) ?_
    rw [e1, rd6 hi, rd6 (show k < l.length by omega)]
    refine Ev.ite_pos (by omega) (Ev.ite_pos (by omega) (Ev.ite_pos (by omega) (Ev.ite_pos (by omega) (Ev.ite_pos (by omega) ?_))))
    by_cases q : (l[i]).f0.toList = (l[k]'(by omega)).f0.toList
    · rw [hit ⟨k, hk, q⟩]; exact Ev.ite_pos q (Ev.now _)
    · refine Ev.ite_neg q (twice_l1 hl hi hit next d (k + 1) (by omega) fun b hb hbk => ?_)
      rcases Nat.lt_or_ge b k with z | z
      · exact ha b hb z
      · obtain rfl : b = k := by omega
        exact q
theorem twice_l0 {l : List At6} (hl : l.length ≤ 1000) : ∀ (d i : Nat) (r : Bool), d + i = l.length → (Dup l i → r = true) → (¬ Dup l i → r = false) → Ev (fun k => pen_twice.l0 k l (l.length : Int) (i : Int)) r
  | 0, i, r, h, h1, h2 => by
    refine Ev.step (fun k => by rw [pen_twice.l0]) (Ev.ite_neg (by omega) (Ev.cast (Ev.now _) (h2 ?_).symm))
    rintro ⟨a, b, ha, hb, hi, _⟩
    omega
  | d + 1, i, r, h, h1, h2 => by
    have hi : i < l.length := by omega
    refine Ev.step (fun k => by rw [pen_twice.l0]) (Ev.ite_pos (by omega) ?_)
    refine twice_l1 hl hi (r := r) (fun ⟨b, hb, q⟩ => h1 ⟨i, b, hi, hb, Nat.le_refl _, q⟩) (fun hn => ?_) i 0 rfl fun b _ hb => absurd hb (by omega)
    refine twice_l0 hl d (i + 1) r (by omega) (fun ⟨a, b, ha, hb, hle, q⟩ => h1 ⟨a, b, ha, hb, by omega, q⟩) fun hd => h2 ?_
    rintro ⟨a, b, ha, hb, hle, q⟩
    rcases Nat.eq_or_lt_of_le hle with z | z
    · subst z; exact hn b hb q
    · exact hd ⟨a, b, ha, hb, z, q⟩
open Classical in
/-- The tag's text, or what is wrong. -/
noncomputable def openG (name : ByteArray) (l : List At6) : ByteArray × Int :=
  if name8 name = true ∧ okA l = true then (if Dup l 0 then (⟨#[]⟩, 8) else if l.length > 12 then (⟨#[]⟩, 2) else ((((⟨#[60]⟩ : ByteArray) ++ name) ++ catA l) ++ (⟨#[62]⟩ : ByteArray), 0)) else (⟨#[]⟩, 4)
theorem mk_app (out : List UInt8) (x : ByteArray) : (⟨(out ++ x.data.toList).toArray⟩ : ByteArray) = ⟨out.toArray⟩ ++ x := bytes_ext (by rw [ByteArray.toList_data_append])
theorem open_l0 {l : List At6} {R4 R8 R2 : ByteArray × Int} {F : List UInt8 → ByteArray × Int} (hs : Small l) (h4 : R4 = (⟨#[]⟩, 4)) (h8 : R8 = (⟨#[]⟩, 8)) (h2 : R2 = (⟨#[]⟩, 2)) (hF : ∀ o, F o = (⟨(o ++ [62]).toArray⟩, 0)) :
    ∀ (d i : Nat) (out : List UInt8) (R : ByteArray × Int), d + i = l.length → out.length + 7000 * d ≤ 1000000 →
      (okA (l.drop i) = false → R = R4) → (okA (l.drop i) = true → Dup l 0 → R = R8) → (okA (l.drop i) = true → ¬ Dup l 0 → l.length > 12 → R = R2) → (okA (l.drop i) = true → ¬ Dup l 0 → ¬ l.length > 12 → R = F (out ++ (catA (l.drop i)).data.toList)) →
      Ev (fun k => pen_Open.l0 k l (i : Int) out) R
  | 0, i, out, R, h, ho, r4, r8, r2, r0 => by
    have hd : l.drop i = [] := List.drop_eq_nil_of_le (by omega)
    rw [hd] at r4 r8 r2 r0
    refine Ev.step (fun k => by rw [pen_Open.l0]) (Ev.ite_neg (by omega) ?_)
    by_cases q : Dup l 0
    · refine Ev.bind (twice_l0 (by have := hs.1; omega) l.length 0 true rfl (fun _ => rfl) fun z => absurd q z) (Ev.ite_pos rfl (Ev.cast (Ev.now _) ?_))
      rw [r8 rfl q, h8]
    · refine Ev.bind (twice_l0 (by have := hs.1; omega) l.length 0 false rfl (fun z => absurd z q) fun _ => rfl) (Ev.ite_neg (by decide) ?_)
      by_cases q2 : l.length > 12
      · refine Ev.ite_pos (by omega) (Ev.cast (Ev.now _) ?_)
        rw [r2 rfl q q2, h2]
      · refine Ev.ite_neg (by omega) (Ev.ite_pos (by omega) (Ev.cast (Ev.now _) ?_))
        rw [r0 rfl q q2, hF]
        show _ = ((⟨((out ++ []) ++ [62]).toArray⟩ : ByteArray), (0 : Int))
        rw [List.append_nil]
  | d + 1, i, out, R, h, ho, r4, r8, r2, r0 => by
    have hi : i < l.length := by omega
    have hd : l.drop i = l[i] :: l.drop (i + 1) := List.drop_eq_getElem_cons hi
    have hsm := hs.2 (l[i]) (List.getElem_mem hi)
    have hsz := attr_size hsm
    have e1 : wrap64 ((i : Int) + 1) = ((i + 1 : Nat) : Int) := by rw [w64 (by have := hs.1; omega) (by have := hs.1; omega)]; rfl
    rw [hd] at r4 r8 r2 r0
    have hok : okA (l[i] :: l.drop (i + 1)) = ((name8 (l[i]).f0 && goodB (l[i]).f1) && okA (l.drop (i + 1))) := rfl
    rw [hok] at r4 r8 r2 r0
    refine Ev.step (fun k => by rw [pen_Open.l0]) ?_
    rw [e1, rd6 hi]
    refine Ev.ite_pos (by omega) (Ev.ite_pos (by omega) (Ev.bind (Ev.pure fun _ => name_f _) ?_))
    by_cases qn : name8 (l[i]).f0 = true
    case neg =>
      refine Ev.ite_neg qn (Ev.cast (Ev.now _) ?_)
      rw [r4 (by rw [Bool.eq_false_iff.2 qn]; rfl), h4]
    refine Ev.ite_pos qn (Ev.bind (good_ev (by omega)) ?_)
    by_cases qg : goodB (l[i]).f1 = true
    case neg =>
      refine Ev.ite_neg qg (Ev.cast (Ev.now _) ?_)
      rw [r4 (by rw [Bool.eq_false_iff.2 qg, Bool.and_false, Bool.false_and]), h4]
    rw [qn, qg, Bool.true_and, Bool.true_and] at r4 r8 r2 r0
    refine Ev.ite_pos qg (Ev.bind (esc_ev (by omega)) (Ev.ite_pos (show out.length + (attrT (l[i])).size ≤ _ by omega) ?_))
    refine open_l0 hs h4 h8 h2 hF d (i + 1) _ R (by omega) ?_ r4 r8 r2 fun a b c => ?_
    · rw [List.length_append, ← size_length]
      show out.length + (attrT (l[i])).size + _ ≤ _
      omega
    · rw [r0 a b c]
      show F (out ++ (attrT (l[i]) ++ catA (l.drop (i + 1))).data.toList) = F (out ++ (attrT (l[i])).data.toList ++ _)
      rw [ByteArray.toList_data_append, List.append_assoc]
theorem open_ev {name : ByteArray} {l : List At6} (hs : Small l) (hn : name.size ≤ 1000) : Ev (fun k => pen_Open.f k name l) (openG name l) := by
  unfold pen_Open.f
  refine Ev.bind (Ev.pure fun _ => name_f name) ?_
  by_cases q : name8 name = true
  · refine Ev.ite_pos q (Ev.ite_pos (by omega) ?_)
    refine open_l0 hs rfl rfl rfl (F := fun o => (⟨(o ++ [62]).toArray⟩, 0)) (fun _ => rfl) l.length 0 _ _ rfl ?_ ?_ ?_ ?_ ?_
    · have := hs.1
      rw [List.length_cons, ← size_length]; omega
    · intro h; rw [List.drop_zero] at h; unfold openG; rw [if_neg (fun z => by rw [h] at z; exact absurd z.2 (by decide))]
    · intro h d; rw [List.drop_zero] at h; unfold openG; rw [if_pos ⟨q, h⟩, if_pos d]
    · intro h d g; rw [List.drop_zero] at h; unfold openG; rw [if_pos ⟨q, h⟩, if_neg d, if_pos g]
    · intro h d g
      rw [List.drop_zero] at h ⊢
      unfold openG
      rw [if_pos ⟨q, h⟩, if_neg d, if_neg g]
      refine congrArg (fun z => (z, (0 : Int))) (bytes_ext ?_)
      rw [ByteArray.toList_data_append, ByteArray.toList_data_append, ByteArray.toList_data_append]
      show _ = ((60 :: name.data.toList) ++ _) ++ [62]
      rfl
  · refine Ev.ite_neg q (Ev.cast (Ev.now _) ?_)
    unfold openG
    rw [if_neg (fun z => q z.1)]
/- The document's -/
theorem wrong_l2 {l : List At6} (hl : l.length ≤ 1000) {i : Nat} (hi : i < l.length) {r : Int} {v : ByteArray}
    (hit : (∃ (b : Nat) (hb : b < i), (l[i]).f0.toList = (l[b]'(by omega)).f0.toList) → r = 8)
    (next : (∀ (b : Nat) (hb : b < i), ¬ (l[i]).f0.toList = (l[b]'(by omega)).f0.toList) → Ev (fun k => rectoref06_Wrong.l1 k l l (l.length : Int) ((i + 1 : Nat) : Int)) r) :
    ∀ d k : Nat, d + k = l.length → (∀ (b : Nat) (hb : b < i), b < k → ¬ (l[i]).f0.toList = (l[b]'(by omega)).f0.toList) → Ev (fun n => rectoref06_Wrong.l2 n l (i : Int) l (l.length : Int) (i : Int) l (l.length : Int) (k : Int) (l[i]).f0 v) r
  | 0, k, h, ha => by
    have e1 : wrap64 ((i : Int) + 1) = ((i + 1 : Nat) : Int) := by rw [w64 (by omega) (by omega)]; rfl
    refine Ev.step (fun k => by rw [rectoref06_Wrong.l2]) ?_
    rw [e1]
    exact Ev.ite_neg (by omega) (next fun b hb => ha b hb (by omega))
  | d + 1, k, h, ha => by
    have hk : k < l.length := by omega
    have e1 : wrap64 ((k : Int) + 1) = ((k + 1 : Nat) : Int) := by rw [w64 (by omega) (by omega)]; rfl
    refine Ev.step (fun k => by rw [rectoref06_Wrong.l2]) ?_
    rw [e1, rd6 hk]
    refine Ev.ite_pos (by omega) (Ev.ite_pos (by omega) (Ev.ite_pos (by omega) ?_))
    have go := fun z => wrong_l2 hl hi (v := v) hit next d (k + 1) (by omega) z
    by_cases hki : k < i
    · refine Ev.ite_pos (by omega) ?_
      by_cases q : (l[i]).f0.toList = (l[k]).f0.toList
      · rw [hit ⟨k, hki, q⟩]; exact Ev.ite_pos q (Ev.now _)
      · refine Ev.ite_neg q (go fun b hb hbk => ?_)
        rcases Nat.lt_or_ge b k with z | z
        · exact ha b hb z
        · obtain rfl : b = k := by omega
          exact q
    · exact Ev.ite_neg (by omega) (go fun b hb _ => ha b hb (by omega))
theorem wrong_l1 {l : List At6} (hl : l.length ≤ 1000) : ∀ (d i : Nat) (r : Int), d + i = l.length → (Dup l i → r = 8) → (¬ Dup l i → r = if l.length > 12 then 2 else 0) → Ev (fun k => rectoref06_Wrong.l1 k l l (l.length : Int) (i : Int)) r
  | 0, i, r, h, h1, h2 => by
    have hn : ¬ Dup l i := by
      rintro ⟨a, b, ha, hb, hi, _⟩
      omega
    refine Ev.step (fun k => by rw [rectoref06_Wrong.l1]) (Ev.ite_neg (by omega) ?_)
    rw [h2 hn]
    by_cases q : l.length > 12
    · rw [if_pos q]; exact Ev.ite_pos (by omega) (Ev.now _)
    · rw [if_neg q]; exact Ev.ite_neg (by omega) (Ev.now _)
  | d + 1, i, r, h, h1, h2 => by
    have hi : i < l.length := by omega
    refine Ev.step (fun k => by rw [rectoref06_Wrong.l1]) ?_
    rw [rd6 hi]
    refine Ev.ite_pos (by omega) (Ev.ite_pos (by omega) (Ev.ite_pos (by omega) ?_))
    refine wrong_l2 hl hi (r := r) (fun ⟨b, hb, q⟩ => h1 ⟨i, b, hi, hb, Nat.le_refl _, q⟩) (fun hn => ?_) l.length 0 rfl fun b _ hb => absurd hb (by omega)
    refine wrong_l1 hl d (i + 1) r (by omega) (fun ⟨a, b, ha, hb, hle, q⟩ => h1 ⟨a, b, ha, hb, by omega, q⟩) fun hd => h2 ?_
    rintro ⟨a, b, ha, hb, hle, q⟩
    rcases Nat.eq_or_lt_of_le hle with z | z
    · subst z; exact hn b hb q
    · exact hd ⟨a, b, ha, hb, z, q⟩
theorem wrong_l0 {l : List At6} (hs : Small l) : ∀ (d i : Nat) (r : Int), d + i = l.length → (okA (l.drop i) = false → r = 4) → (okA (l.drop i) = true → Dup l 0 → r = 8) → (okA (l.drop i) = true → ¬ Dup l 0 → r = if l.length > 12 then 2 else 0) → Ev (fun k => rectoref06_Wrong.l0 k l l (l.length : Int) (i : Int)) r
  | 0, i, r, h, r4, r8, r0 => by
    have hd : l.drop i = [] := List.drop_eq_nil_of_le (by omega)
    rw [hd] at r4 r8 r0
    refine Ev.step (fun k => by rw [rectoref06_Wrong.l0]) ?_
    exact Ev.ite_neg (by omega) (wrong_l1 (by have := hs.1; omega) l.length 0 r rfl (r8 rfl) (r0 rfl))
  | d + 1, i, r, h, r4, r8, r0 => by
    have hi : i < l.length := by omega
    have hd : l.drop i = l[i] :: l.drop (i + 1) := List.drop_eq_getElem_cons hi
    have hsm := hs.2 (l[i]) (List.getElem_mem hi)
    have e1 : wrap64 ((i : Int) + 1) = ((i + 1 : Nat) : Int) := by rw [w64 (by have := hs.1; omega) (by have := hs.1; omega)]; rfl
    rw [hd] at r4 r8 r0
    have hok : okA (l[i] :: l.drop (i + 1)) = ((name8 (l[i]).f0 && goodB (l[i]).f1) && okA (l.drop (i + 1))) := rfl
    rw [hok] at r4 r8 r0
    refine Ev.step (fun k => by rw [rectoref06_Wrong.l0]) ?_
    rw [e1, rd6 hi]
    refine Ev.ite_pos (by omega) (Ev.ite_pos (by omega) (Ev.ite_pos (by omega) (Ev.bind (rname_ev (by omega)) ?_)))
    by_cases qn : name8 (l[i]).f0 = true
    case neg => rw [r4 (by rw [Bool.eq_false_iff.2 qn]; rfl)]; exact Ev.ite_neg qn (Ev.now _)
    refine Ev.ite_pos qn (Ev.bind (rgood_ev (by omega)) ?_)
    by_cases qg : goodB (l[i]).f1 = true
    case neg => rw [r4 (by rw [Bool.eq_false_iff.2 qg, Bool.and_false, Bool.false_and])]; exact Ev.ite_neg qg (Ev.now _)
    rw [qn, qg, Bool.true_and, Bool.true_and] at r4 r8 r0
    exact Ev.ite_pos qg (wrong_l0 hs d (i + 1) r (by omega) r4 r8 r0)
theorem plain_l0 {l : List At6} (hs : Small l) : ∀ (d i : Nat) (out : ByteArray), d + i = l.length → out.size + 7000 * d ≤ 1000000 → Ev (fun k => rectoref06_Plain.l0 k out l (l.length : Int) (i : Int)) ((out ++ catA (l.drop i)) ++ (⟨#[62]⟩ : ByteArray))
  | 0, i, out, h, ho => by
    have hd : l.drop i = [] := List.drop_eq_nil_of_le (by omega)
    refine Ev.step (fun k => by rw [rectoref06_Plain.l0]) (Ev.ite_neg (by omega) (Ev.ite_pos (by omega) (Ev.cast (Ev.now _) ?_)))
    rw [hd]
    show out ++ _ = (out ++ ByteArray.empty) ++ _
    rw [ByteArray.append_empty]
  | d + 1, i, out, h, ho => by
    have hi : i < l.length := by omega
    have hd : l.drop i = l[i] :: l.drop (i + 1) := List.drop_eq_getElem_cons hi
    have hsm := hs.2 (l[i]) (List.getElem_mem hi)
    have hsz := attr_size hsm
    have he := esc_size (s := (l[i]).f1) true
    have e1 : wrap64 ((i : Int) + 1) = ((i + 1 : Nat) : Int) := by rw [w64 (by have := hs.1; omega) (by have := hs.1; omega)]; rfl
    have z1 : (out ++ (⟨#[32]⟩ : ByteArray)).size = out.size + 1 := ByteArray.size_append ..
    have z2 : ((out ++ (⟨#[32]⟩ : ByteArray)) ++ (l[i]).f0).size = out.size + 1 + (l[i]).f0.size := by rw [ByteArray.size_append, z1]
    have z3 : (((out ++ (⟨#[32]⟩ : ByteArray)) ++ (l[i]).f0) ++ (⟨#[61, 34]⟩ : ByteArray)).size = out.size + 1 + (l[i]).f0.size + 2 := by rw [ByteArray.size_append, z2]; rfl
    have z4 : ((((out ++ (⟨#[32]⟩ : ByteArray)) ++ (l[i]).f0) ++ (⟨#[61, 34]⟩ : ByteArray)) ++ strOfNums (escS true false (bl (l[i]).f1))).size = out.size + 1 + (l[i]).f0.size + 2 + (strOfNums (escS true false (bl (l[i]).f1))).size := by rw [ByteArray.size_append, z3]
    have ea : ((((out ++ (⟨#[32]⟩ : ByteArray)) ++ (l[i]).f0) ++ (⟨#[61, 34]⟩ : ByteArray)) ++ strOfNums (escS true false (bl (l[i]).f1))) ++ (⟨#[34]⟩ : ByteArray) = out ++ attrT (l[i]) := by
      unfold attrT attrS
      simp only [ByteArray.append_assoc]
    refine Ev.step (fun k => by rw [rectoref06_Plain.l0]) ?_
    rw [e1, rd6 hi]
    refine Ev.ite_pos (by omega) (Ev.ite_pos (by omega) (Ev.ite_pos (by omega) (Ev.ite_pos (by omega) (Ev.ite_pos (by omega) (Ev.ite_pos (by omega) (Ev.bind (resc_ev (by omega)) (Ev.ite_pos (by omega) (Ev.ite_pos (by omega) ?_))))))))
    rw [ea]
    have := plain_l0 hs d (i + 1) (out ++ attrT (l[i])) (by omega) (by rw [ByteArray.size_append]; omega)
    refine Ev.cast this ?_
    rw [hd]
    show _ = (out ++ (attrT (l[i]) ++ catA (l.drop (i + 1)))) ++ _
    simp only [ByteArray.append_assoc]
theorem ropen_ev {name : ByteArray} {l : List At6} (hs : Small l) (hn : name.size ≤ 1000) : Ev (fun k => rectoref06_Open.f k name l) (openG name l) := by
  unfold rectoref06_Open.f
  have bad : ∀ r : Int, r ≠ 0 → openG name l = (⟨#[]⟩, r) → Ev (fun k => rectoref06_Wrong.f k name l) r → Ev (fun k => (rectoref06_Wrong.f k name l).bind fun t188 => (if t188 = 0 then ((rectoref06_Plain.f k name l).bind fun t189 => (some (t189, 0))) else (some ((⟨#[]⟩ : ByteArray), t188)))) (openG name l) := fun r hr e h => by
    rw [e]; exact Ev.bind h (Ev.ite_neg hr (Ev.now _))
  have wf : ∀ r : Int, (name8 name = true → Ev (fun k => rectoref06_Wrong.l0 k l l (l.length : Int) 0) r) → (¬ name8 name = true → r = 4) → Ev (fun k => rectoref06_Wrong.f k name l) r := fun r h1 h2 => by
    unfold rectoref06_Wrong.f
    refine Ev.bind (rname_ev (by omega)) ?_
    by_cases q : name8 name = true
    · exact Ev.ite_pos q (h1 q)
    · rw [h2 q]; exact Ev.ite_neg q (Ev.now _)
  by_cases q : name8 name = true
  case neg => exact bad 4 (by decide) (by unfold openG; rw [if_neg (fun z => q z.1)]) (wf 4 (fun z => absurd z q) fun _ => rfl)
  have w0 := fun r a b c => wrong_l0 hs l.length 0 r rfl a b c
  rw [List.drop_zero] at w0
  by_cases ok : okA l = true
  case neg => exact bad 4 (by decide) (by unfold openG; rw [if_neg (fun z => ok z.2)]) (wf 4 (fun _ => w0 4 (fun _ => rfl) (fun z => absurd z ok) fun z => absurd z ok) fun _ => rfl)
  by_cases dp : Dup l 0
  · exact bad 8 (by decide) (by unfold openG; rw [if_pos ⟨q, ok⟩, if_pos dp]) (wf 8 (fun _ => w0 8 (fun z => by rw [ok] at z; cases z) (fun _ _ => rfl) fun _ z => absurd dp z) fun z => absurd q z)
  by_cases g : l.length > 12
  · exact bad 2 (by decide) (by unfold openG; rw [if_pos ⟨q, ok⟩, if_neg dp, if_pos g]) (wf 2 (fun _ => w0 2 (fun z => by rw [ok] at z; cases z) (fun _ z => absurd z dp) fun _ _ => (if_pos g).symm) fun z => absurd q z)
  have e : openG name l = ((((⟨#[60]⟩ : ByteArray) ++ name) ++ catA l) ++ (⟨#[62]⟩ : ByteArray), 0) := by unfold openG; rw [if_pos ⟨q, ok⟩, if_neg dp, if_neg g]
  rw [e]
  have hz : ((⟨#[60]⟩ : ByteArray) ++ name).size = 1 + name.size := by rw [ByteArray.size_append]; rfl
  have pl := plain_l0 hs l.length 0 ((⟨#[60]⟩ : ByteArray) ++ name) rfl (by have := hs.1; omega)
  rw [List.drop_zero] at pl
  refine Ev.bind (wf 0 (fun _ => w0 0 (fun z => by rw [ok] at z; cases z) (fun _ z => absurd z dp) fun _ _ => (if_neg g).symm) fun z => absurd q z) (Ev.ite_pos rfl (Ev.bind (g := fun k => rectoref06_Plain.f k name l) ?_ (Ev.now _)))
  unfold rectoref06_Plain.f
  exact Ev.ite_pos (by omega) pl
end Go.Proofs.YtdoapeandigooaaDoor.P
