/- What the code of this statement does, over values that stand for data: an executor of the model's code, that it is sound, and contracts of functions: part 5. No condition is added to the statement. -/
import Derived.Test.YtmkjjopflncedaaMD4
import Derived.Lib.AppendZerosOnto
import Derived.Lib.Walk
import Derived.Below
import Derived.ChangeArms
import Derived.SizedLaws
set_option linter.unusedVariables false
set_option linter.unusedSimpArgs false
section
namespace Go.Proofs.Ytmkjjopflncedaa.AX
open Go Go.Shelf Go.RowKit Go.Lib
set_option linter.unusedVariables false
set_option linter.unusedSimpArgs false
theorem edinfo : ∃ i z, Try.prog.info? 60 = some i ∧ i.size = 14 ∧ i.zero = some z ∧ z.cells.size = 14 ∧ i.bytes = 224 := by
  obtain ⟨_, i, z, h1, h2, h3, h4, _⟩ := ty_ok (e := 60) (t := .edit) (by kernel_rfl)
  have hb : bytesT Try.prog 60 = some 224 := by kernel_rfl
  unfold bytesT at hb
  rw [h1] at hb
  exact ⟨i, z, h1, h2, h3, h4, by injection hb⟩
def GrowPost (w : World) (e : Ending) (w' : World) : Prop := ∃ G cur, e = .returned (.slice (some ⟨w.heap.size, 0, none⟩) 0 G) ∧ G ≤ maxLen ∧ cur.size = G * 14 ∧ w' = w.drew.alloc (.cells cur 60)
set_option maxHeartbeats 8000000 in
set_option maxRecDepth 1000000 in
theorem grow_pos (n : Nat) (w : World) (h0 : 0 < n) (hbig : n * 224 ≤ 140737488355328) :
    Calls Try.prog 71 #[.slice none 0 0, .int .i64 n] w (GrowPost w) := by
  have mixed : Try.prog.follows Departure.mixedOrders = true := by kernel_rfl
  obtain ⟨inf, z, hinf, hsz, hz, hzs, hby⟩ := edinfo
  have h1 : ¬ ((n : Int) < 0) := by omega
  have h4 : (n : Int) > 0 := by omega
  have hrz : ∀ ty, (Builtin.append_ #[23, 3] ty #[.slice none 0 0, .int .i64 (n : Int)]).run Try.prog w =
      .ok (.slice (some ⟨w.heap.size, 0, none⟩) n (grownCap w n 0 60)) (w.drew.alloc (.cells (#[] ++ Builtin.zeroCells z.cells n ++ Builtin.zeroCells z.cells (grownCap w n 0 60 - n)) 60)) := fun ty => by
    have h := Lib.run_append_grow_zeros w 23 3 ty 60 inf z .i64 .i64 Try.underlying23 Try.underlying3 hinf hz none 0 0 [] (run_firstCells_none w.drew inf.size 0 0 0) n h0 (by omega) (by omega) (by omega) (by rw [hby]; omega)
      (by rw [Nat.zero_add]; exact growslice_fits (by omega) (by rw [hby]; exact hbig))
    rw [Nat.zero_add] at h
    exact h
  have hGn : n ≤ grownCap w n 0 60 := grownCap_ge w _ _ _
  have hG63 := grownCap_le_maxLen w n 0 60 (by unfold maxLen; omega)
  obtain ⟨G, hG⟩ : ∃ G, G = grownCap w n 0 60 := ⟨_, rfl⟩
  rw [← hG] at hrz hGn hG63
  obtain ⟨cur, hcur⟩ : ∃ cur, cur = #[] ++ Builtin.zeroCells z.cells n ++ Builtin.zeroCells z.cells (G - n) := ⟨_, rfl⟩
  rw [← hcur] at hrz
  have hcs : Hid (cur.size = G * 14) := by
    show cur.size = _
    rw [hcur]
    simp only [Array.size_append, Builtin.zeroCells, Array.size_map, Array.size_range, hzs]
    simp
    omega
  have hGm : Hid (G ≤ maxLen) := hG63
  have hG9 : G ≤ 9223372036854775807 := by unfold maxLen at hG63; omega
  clear hcur hG hG63
  go_enter Try.func71, Try.ntmps71
  go_wp2_with (at_builtin; refine Lib.wpList_append_run _ rfl _ _ _ _ rfl _ _ rfl rfl _ _ (hrz _) ?_)
  all_goals (go_ret; exact ⟨G, cur, rfl, hGm.out, hcs.out, rfl⟩)
set_option maxHeartbeats 8000000 in
set_option maxRecDepth 1000000 in
theorem grow_zero (w : World) : Calls Try.prog 71 #[.slice none 0 0, .int .i64 (0 : Nat)] w fun e w' => e = .returned (.slice none 0 0) ∧ w' = w := by
  have mixed : Try.prog.follows Departure.mixedOrders = true := by kernel_rfl
  go_enter Try.func71, Try.ntmps71
  go_wp2
  go_ret
  exact ⟨rfl, rfl⟩
def conGrow : Con := fun args hp => match args, hp with
  | [.nil, .int .i64 n], [] => some { pre := some (0 ≤ n ∧ n * 224 ≤ (maxSl : Int)), res := .own 0 1, extra := [.rowb 1 .edit []] }
  | _, _ => none
theorem grow_holds : Holds 71 conGrow := by
  intro args hp ans hc
  unfold conGrow at hc
  split at hc
  case h_2 => cases hc
  rename_i n
  injection hc with hc
  subst hc
  intro F I w vals hH hv hpre
  obtain ⟨p1, p2⟩ := hpre _ rfl
  obtain ⟨m, rfl⟩ : ∃ m : Nat, n = m := ⟨n.toNat, by omega⟩
  cases hv with | cons a0 t => cases t with | cons a1 t => cases t with | nil =>
  have e0 := (show ValR w (Own F I) I _ .nil from a0).nil
  have e1 := (show ValR w (Own F I) I _ (.int .i64 m) from a1).int
  subst e0; subst e1
  obtain ⟨I1, g1, g2, g3, g4⟩ := want_new hH .edit
  have hR := HRel.toRel g1
  obtain ⟨l0, hl0, v0, vs, rfl, _, hown, _⟩ := g1.hp 0
  have hv0 : v0 = .slice none 0 0 := by
    have := (ValR.own (w := w) (show ValR w (Own F I1) I1 (.slice none 0 0) (.own 0 0) from g3)).2.2 _ _ _ hl0
    exact (this.2 rfl).symm
  subst hv0
  have fin : ∀ (v' : Value) (w' : World), w'.ownsRow 0 (cx0.tid .edit) (width .edit) v' 0 [] → w.grownBy w' none → (∀ k, v'.ownBlock = some k → w.heap.size ≤ k) → ∃ v I', Ending.returned v' = .returned v ∧ ValR w' (Own F I') I' v (.own 0 1) ∧ HRel cx0.tid F I' (([] ++ [Blk.rowb 1 .edit []] : List Blk).map some) w' ∧ (∀ p, (none : Option Prop) = some p → p) ∧
      (∀ i, i < 0 → (∀ b, I i = some (.box b) → I' i = some (.box b)) ∧ (∀ b v, I i = some (.bld b v) → ∃ v', I' i = some (.bld b v')) ∧ (∀ n t v, I i = some (.row n t v) → ∃ n' t' v', I' i = some (.row n' t' v') ∧ (hasN ([] : List Nat) i = true → n' = 0 ∧ t' = t ∧ (n = 0 → v' = v)))) ∧
      (∀ i l b, I' i = some l → l.has b → (∃ j l0, I j = some l0 ∧ l0.has b) ∨ w.heap.size ≤ b) ∧
      w'.os = w.os ∧ w'.tape = w.tape ∧ w'.output = w.output ∧ w.heap.size ≤ w'.heap.size ∧ (∀ b, b < w.heap.size → (∀ i l, I i = some l → ¬ l.has b) → w'.heap[b]? = w.heap[b]?) := by
    intro v' w' q1 q2 q3
    obtain ⟨r1, r2⟩ := hR.renew (id := 0) (m := 0) (t := .edit) (v := .slice none 0 0) (v' := v') (xs := []) (ys := []) (us := []) rfl hl0 q1 q2 (fun k hk => .inr (q3 k hk)) (Nat.zero_le _) .nil
    refine ⟨v', _, rfl, r2, r1.toH, fun p h => (nomatch h), fun i hi => absurd hi (Nat.not_lt_zero _), fun i l b h1 h2 => ?_, q2.os, q2.tape, q2.output, q2.size, fun b hb _ => q2.block b hb (fun h => nomatch h)⟩
    rcases (r1.place i l b h1 h2).1 with ⟨j, l1, h3, h4⟩ | h3
    · exact .inl (g2.back j l1 b h3 h4)
    · exact .inr h3
  rcases Nat.eq_zero_or_pos m with h0 | h0
  · subst h0
    refine (grow_zero w).mono ?_
    rintro e w' ⟨rfl, rfl⟩
    exact fin _ _ ⟨rfl, .inl ⟨rfl, rfl⟩⟩ ⟨rfl, rfl, rfl, Nat.le_refl _, fun _ _ _ => rfl⟩ (fun k hk => by cases hk)
  · refine (grow_pos m w h0 (by unfold maxSl at p2; omega)).mono ?_
    rintro e w' ⟨G, cur, rfl, k1, k2, rfl⟩
    refine fin _ _ ⟨rfl, .inr ⟨w.heap.size, G, cur, rfl, Nat.zero_le _, ?_, Nat.zero_le _, k1, k2, by simp⟩⟩ ⟨rfl, rfl, rfl, ?_, fun k hk _ => Below.heap_alloc _ _ _ hk⟩ (fun k hk => ?_)
    · exact Array.getElem?_push_size (xs := w.heap)
    · show w.heap.size ≤ (w.drew.heap.push _).size
      rw [Array.size_push]; exact Nat.le_succ _
    · cases hk; exact Nat.le_refl _
end Go.Proofs.Ytmkjjopflncedaa.AX
end
section
namespace Go.Proofs.Ytmkjjopflncedaa.AXP
open Go Go.Proofs.Ytmkjjopflncedaa.AX
def totL : List (List Ed) → Nat
  | [] => 0
  | x :: l => x.length + totL l
def catL (l : List (List Ed)) : List Ed := l.flatten
end Go.Proofs.Ytmkjjopflncedaa.AXP
namespace Go.Proofs.Ytmkjjopflncedaa.AX
open Go AXP
noncomputable def cxCat : Cx := cxT (tabLook [(71, conGrow)])
def lsCat1 : LS where
  keep := [(0, .as), (3, .as), (9, .as), (10, .as), (11, .as)]
  left := [(0, .as), (3, .as)]
  sum := fun vs bs K => match vs, bs with
    | [.row .edits ss, .int .i64 sz, .row .edits s2, .int .i64 m, .int .i64 i], [] => Rq (m = s2.length ∧ i = 0 ∧ sz = 0 ∧ s2.length ≤ maxSl ∧ totL s2 ≤ maxSl) (K (.exit 0) [.row .edits ss, .int .i64 (totL s2)] [])
    | _, _ => False
def lsCat2 : LS where
  keep := [(6, .own .edit), (25, .as), (26, .as), (27, .as)]
  left := [(6, .own .edit)]
  sum := fun vs bs K => match vs, bs with
    | [.own 0 0, .row .edits ss, .int .i64 m, .int .i64 i], [.rowb 0 .edit l] => Rq (m = ss.length ∧ i = 0 ∧ l.length = 0 ∧ ss.length ≤ maxSl ∧ totL ss * 224 ≤ maxSl) (K (.exit 2) [.own 0 0] [.rowb 0 .edit (catL ss)])
    | _, _ => False
def conCat : Con := conP [.row .edits] fun (ss : List (List Ed)) => { pre := some (ss.length ≤ 1000 ∧ totL ss * 224 ≤ maxSl), res := .own 0 0, extra := [.rowb 0 .edit (catL ss)] }
noncomputable def cxJoin : Cx := cxT (tabLook [(48, conCat), (25, conShort)])
def conJoin : Con := conP [.row .edit, .row .edit] fun (s t : List Ed) => { pre := some (wtEds s + wtEds t ≤ wtMx), res := .own 0 0, extra := [.rowb 0 .edit (shortS (s ++ t))] }
noncomputable def cxNothing : Cx := cxT (tabLook [(14, conLo 50), (21, conAbout), (24, conJoin), (15, conNone22)])
end Go.Proofs.Ytmkjjopflncedaa.AX
end
section
namespace Go.Proofs.Ytmkjjopflncedaa.AX
open Go AXP
set_option maxRecDepth 100000
theorem vcCatB1 (ss s2 : List (List Ed)) (sz m i : Int) (K : Ex → List AV → List Blk → Prop) : (bodyA cxCat (LL Try.f48 [lsCat1, lsCat2]) Try.f48.ntmps (loopAt Try.f48 0).1 (loopAt Try.f48 0).2 lsCat1.keep lsCat1.left K [.row .edits ss, .int .i64 sz, .row .edits s2, .int .i64 m, .int .i64 i] []) = (
Br (decide (i < m))
  (Rq ((0 : Int) ≤ i ∧ i < (↑s2.length : Int))
    (Gv (List.length (rd Ty.edits s2 i) ≤ maxSl)
      (Br (decide (IntKind.i64.wrap (sz + (↑(List.length (rd Ty.edits s2 i)) : Int)) < (0 : Int))) False
        (K Ex.norm
          [AV.row Ty.edits ss, AV.int IntKind.i64 (IntKind.i64.wrap (sz + (↑(List.length (rd Ty.edits s2 i)) : Int))),
            AV.row Ty.edits s2, AV.int IntKind.i64 m, AV.int IntKind.i64 (IntKind.i64.wrap (i + (1 : Int)))]
          []))))
  (K (Ex.exit (0 : Nat)) [AV.row Ty.edits ss, AV.int IntKind.i64 sz] [])) := by kernel_rfl
theorem vcCatB2 (ss : List (List Ed)) (l : List Ed) (m i : Int) (K : Ex → List AV → List Blk → Prop) : (bodyA cxCat (LL Try.f48 [lsCat1, lsCat2]) Try.f48.ntmps (loopAt Try.f48 1).1 (loopAt Try.f48 1).2 lsCat2.keep lsCat2.left K [.own 0 0, .row .edits ss, .int .i64 m, .int .i64 i] [.rowb 0 .edit l]) = (
Br (decide (i < m))
  (Rq ((0 : Int) ≤ i ∧ i < (↑ss.length : Int))
    (Rq ((l.length + List.length (rd Ty.edits ss i)) * (224 : Nat) ≤ maxSl)
      (K Ex.norm
        [AV.own (0 : Nat) (0 : Nat), AV.row Ty.edits ss, AV.int IntKind.i64 m,
          AV.int IntKind.i64 (IntKind.i64.wrap (i + (1 : Int)))]
        [Blk.rowb (0 : Nat) Ty.edit (l ++ rd Ty.edits ss i)])))
  (K (Ex.exit (2 : Nat)) [AV.own (0 : Nat) (0 : Nat)] [Blk.rowb (0 : Nat) Ty.edit l])) := by kernel_rfl
theorem vcCatF (ss : List (List Ed)) (Q : List AV → List Blk → List Blk → Prop) : (funA cxCat (LL Try.f48 [lsCat1, lsCat2]) Try.f48 [.row .edits ss] [] [] Q) = (
Gv (ss.length ≤ maxSl)
  (Rq
    ((↑ss.length : Int) = (↑ss.length : Int) ∧
      (0 : Int) = (0 : Int) ∧ (0 : Int) = (0 : Int) ∧ ss.length ≤ maxSl ∧ totL ss ≤ maxSl)
    (Rq ((0 : Int) ≤ (↑(totL ss) : Int) ∧ (↑(totL ss) : Int) * (224 : Int) ≤ (↑maxSl : Int))
      (Gv (ss.length ≤ maxSl)
        (Rq
          ((↑ss.length : Int) = (↑ss.length : Int) ∧
            (0 : Int) = (0 : Int) ∧ (0 : Nat) = (0 : Nat) ∧ ss.length ≤ maxSl ∧ totL ss * (224 : Nat) ≤ maxSl)
          (Q [AV.own (0 : Nat) (0 : Nat)] [] [Blk.rowb (0 : Nat) Ty.edit (catL ss)])))))) := by kernel_rfl
theorem vcJoinF (s t : List Ed) (Q : List AV → List Blk → List Blk → Prop) : (funA cxJoin (LL Try.f24 []) Try.f24 [.row .edit s, .row .edit t] [] [] Q) = (
Rq ([s, t].length ≤ (1000 : Nat) ∧ totL [s, t] * (224 : Nat) ≤ maxSl)
  (Rq (wtEds (catL [s, t]) ≤ wtMx)
    (Q [AV.own (0 : Nat) (0 : Nat)] [] [Blk.rowb (0 : Nat) Ty.edit (shortS (catL [s, t]))]))) := by kernel_rfl
theorem vcNothingF (s : List Ed) (Q : List AV → List Blk → List Blk → Prop) : (funA cxNothing (LL Try.f7 []) Try.f7 [.row .edit s] [] [] Q) = (
Br (longB (50 : Int) s) (Q [AV.bool true] [] [])
  (Rq (wtEds s ≤ wtMx)
    (Rq (wtEds s + wtEds (aboutS s) ≤ wtMx)
      (Br ((↑(shortS (s ++ aboutS s)).length : Int) == (0 : Int))
        (Gv ((shortS (s ++ aboutS s)).length ≤ maxSl) (Q [AV.bool true] [] []))
        (Gv ((shortS (s ++ aboutS s)).length ≤ maxSl) (Q [AV.bool false] [] [])))))) := by kernel_rfl
end Go.Proofs.Ytmkjjopflncedaa.AX
end
section
namespace Go.Proofs.Ytmkjjopflncedaa.AXP
open Go Go.Proofs.Ytmkjjopflncedaa.AX
theorem cancel_iff (x y : Ed) : cancelB x y = true ↔ y = turnEd x := by unfold cancelB; rw [eqEd_iff]; exact eq_comm
/-- What cancels at the head is taken away. -/
def pushR (x : Ed) : List Ed → List Ed
  | y :: t => if cancelB x y = true then t else x :: y :: t
  | [] => [x]
theorem push_cons (x y : Ed) (t : List Ed) : pushR x (y :: t) = if cancelB x y = true then t else x :: y :: t := rfl
def actR (l t : List Ed) : List Ed := l.foldr pushR t
def Redd (l : List Ed) : Prop := firstN cancelB l = none
theorem redd_nil : Redd [] := rfl
theorem redd_tail {x : Ed} {l : List Ed} (h : Redd (x :: l)) : Redd l := by
  unfold Redd at *
  cases l with
  | nil => rfl
  | cons y l =>
    rw [firstN] at h
    split at h
    · cases h
    · simpa using h
theorem redd_head {x y : Ed} {l : List Ed} (h : Redd (x :: y :: l)) : cancelB x y = false := by
  unfold Redd at h
  rw [firstN] at h
  split at h
  · cases h
  · rename_i h'; simpa using h'
theorem redd_cons {x y : Ed} {l : List Ed} (h : cancelB x y = false) (h' : Redd (y :: l)) : Redd (x :: y :: l) := by
  unfold Redd at *
  rw [firstN, if_neg (by rw [h]; decide), h']; rfl
theorem push_redd (x : Ed) {t : List Ed} (h : Redd t) : Redd (pushR x t) := by
  cases t with
  | nil => rfl
  | cons y t =>
    rw [push_cons]
    split
    · exact redd_tail h
    · rename_i h'; exact redd_cons (by simpa using h') h
theorem act_redd : ∀ (l : List Ed) {t : List Ed}, Redd t → Redd (actR l t)
  | [], _, h => h
  | x :: l, _, h => push_redd x (act_redd l h)
theorem push_push (x : Ed) {t : List Ed} (h : Redd t) : pushR x (pushR (turnEd x) t) = t := by
  have hx : cancelB x (turnEd x) = true := (cancel_iff _ _).2 rfl
  cases t with
  | nil => simp only [pushR, hx, if_true]
  | cons y t =>
    by_cases hc : cancelB (turnEd x) y = true
    · have hy := (cancel_iff _ _).1 hc
      rw [turn_turn] at hy
      subst hy
      simp only [pushR, hc, if_true]
      cases t with
      | nil => rfl
      | cons z t =>
        show (if cancelB y z = true then t else y :: z :: t) = _
        rw [if_neg (by rw [redd_head h]; decide)]
    · simp only [pushR, hc, Bool.false_eq_true, if_false, hx, if_true]
theorem act_app (a b t : List Ed) : actR (a ++ b) t = actR a (actR b t) := List.foldr_append ..
theorem act_about : ∀ (s : List Ed) {t : List Ed}, Redd t → actR (s ++ aboutS s) t = t
  | [], _, _ => rfl
  | x :: s, t, h => by
    rw [about_cons, ← List.append_assoc]
    show pushR x (actR (s ++ aboutS s ++ [turnEd x]) t) = t
    rw [act_app]
    show pushR x (actR (s ++ aboutS s) (pushR (turnEd x) t)) = t
    rw [act_about s (push_redd _ h), push_push x h]
theorem act_self : ∀ {l : List Ed}, Redd l → actR l [] = l
  | [], _ => rfl
  | x :: l, h => by
    show pushR x (actR l []) = _
    rw [act_self (redd_tail h)]
    cases l with
    | nil => rfl
    | cons y l => rw [push_cons, if_neg (by rw [redd_head h]; decide)]
theorem act_del {l : List Ed} {i : Nat} (h : firstN cancelB l = some i) : actR (delTwo l i) [] = actR l [] := by
  obtain ⟨h1, h2⟩ := firstN_sat h
  have hl := list_two h1
  have hy := (cancel_iff _ _).1 h2
  have e : actR l [] = actR (l.take i ++ l[i] :: l[i + 1] :: l.drop (i + 2)) [] := by rw [← hl]
  rw [e, hy]
  unfold delTwo
  rw [act_app, act_app]
  show _ = actR (l.take i) (pushR l[i] (pushR (turnEd l[i]) (actR (l.drop (i + 2)) [])))
  rw [push_push _ (act_redd _ redd_nil)]
theorem short_nil : ∀ (n : Nat) (l : List Ed), l.length ≤ n → actR l [] = [] → shortS l = []
  | 0, l, h, _ => by
    have : l = [] := List.eq_nil_of_length_eq_zero (by omega)
    subst this
    exact shortS_done rfl rfl
  | n + 1, l, h, ha => by
    cases h1 : firstN cancelB l with
    | some i =>
      have := firstN_lt h1
      rw [shortS_del h1]
      refine short_nil n _ ?_ (by rw [act_del h1]; exact ha)
      unfold delTwo; simp only [List.length_append, List.length_take, List.length_drop]; omega
    | none =>
      rw [act_self h1] at ha
      subst ha
      exact shortS_done rfl rfl
theorem short_about (s : List Ed) : shortS (s ++ aboutS s) = [] := short_nil _ _ (Nat.le_refl _) (act_about s redd_nil)
theorem totL_app : ∀ (a b : List (List Ed)), totL (a ++ b) = totL a + totL b
  | [], b => by simp [totL]
  | x :: a, b => by rw [List.cons_append, totL, totL, totL_app a b]; omega
theorem totL_cat : ∀ (a : List (List Ed)), (catL a).length = totL a
  | [] => rfl
  | x :: a => by
    have := totL_cat a
    unfold catL at *
    rw [List.flatten_cons, List.length_append, totL, this]
theorem catL_snoc (a : List (List Ed)) (x : List Ed) : catL (a ++ [x]) = catL a ++ x := by unfold catL; rw [List.flatten_append]; simp
end Go.Proofs.Ytmkjjopflncedaa.AXP
namespace Go.Proofs.Ytmkjjopflncedaa.AX
open Go AXP
set_option maxRecDepth 100000
theorem rd_eds {a : List (List Ed)} {i : Nat} (h : i < a.length) : rd .edits a (i : Int) = a[i] := rd_get (t := .edits) h
theorem totL_take {ss : List (List Ed)} {i : Nat} (h : i < ss.length) : totL (ss.take (i + 1)) = totL (ss.take i) + ss[i].length ∧ totL (ss.take (i + 1)) ≤ totL ss := by
  have h1 : totL (ss.take (i + 1)) = totL (ss.take i) + ss[i].length := by rw [← List.take_append_getElem h, totL_app]; rfl
  have h2 : totL (ss.take (i + 1)) + totL (ss.drop (i + 1)) = totL ss := by rw [← totL_app, List.take_append_drop]
  exact ⟨h1, by omega⟩
theorem cat_sum1 : SumOK cxCat (LL Try.f48 [lsCat1, lsCat2]) Try.f48.ntmps (loopAt Try.f48 0).1 (loopAt Try.f48 0).2 lsCat1 := by
  intro vs bs K hs
  unfold lsCat1 at hs
  simp only at hs
  split at hs
  case h_2 => exact hs.elim
  rename_i ss sz s2 m i
  obtain ⟨⟨rfl, rfl, rfl, hl, ht⟩, h⟩ := hs
  refine sum_for (fun _ => True) (fun i => [.row .edits ss, .int .i64 (totL (s2.take i)), .row .edits s2, .int .i64 s2.length, .int .i64 i]) (fun _ => []) s2.length (fun i hi _ R hR => ?_) (fun _ R => ?_) trivial
  · refine Eq.mpr (vcCatB1 ss s2 _ s2.length i _) ⟨fun _ => ⟨⟨by omega, by omega⟩, ?_⟩, fun h => lt_of h hi⟩
    obtain ⟨t1, t2⟩ := totL_take hi
    rw [rd_eds hi]
    have hw : IntKind.i64.wrap ((totL (s2.take i) : Int) + (s2[i].length : Int)) = (totL (s2.take (i + 1)) : Int) := by unfold maxSl at ht; rw [wrap_id'] <;> omega
    refine ⟨fun _ => ⟨fun h1 => ?_, fun _ => ?_⟩⟩
    · have h1 := of_decide_eq_true h1
      have hw' : IntKind.i64.wrap ((totL (s2.take i) : Int) + (List.length s2[i] : Int)) = (totL (s2.take (i + 1)) : Int) := hw
      omega
    · have := hR trivial
      rw [← hw, ← wrap_succ hi hl] at this
      exact this
  · refine Eq.mpr (vcCatB1 ss s2 _ s2.length s2.length _) ⟨fun h => not_lt_self h, fun _ => ?_⟩
    rw [List.take_length]; exact h
theorem cat_sum2 : SumOK cxCat (LL Try.f48 [lsCat1, lsCat2]) Try.f48.ntmps (loopAt Try.f48 1).1 (loopAt Try.f48 1).2 lsCat2 := by
  intro vs bs K hs
  unfold lsCat2 at hs
  simp only at hs
  split at hs
  case h_2 => exact hs.elim
  rename_i ss m i l
  obtain ⟨⟨rfl, rfl, hl0, hl, ht⟩, h⟩ := hs
  have hl0 := List.eq_nil_of_length_eq_zero hl0
  subst hl0
  refine sum_for (fun _ => True) (fun i => [.own 0 0, .row .edits ss, .int .i64 ss.length, .int .i64 i]) (fun i => [.rowb 0 .edit (catL (ss.take i))]) ss.length (fun i hi _ R hR => ?_) (fun _ R => ?_) trivial
  · refine Eq.mpr (vcCatB2 ss _ ss.length i _) ⟨fun _ => ⟨⟨by omega, by omega⟩, ?_⟩, fun h => lt_of h hi⟩
    obtain ⟨t1, t2⟩ := totL_take hi
    rw [rd_eds hi]
    refine ⟨?_, ?_⟩
    · have e : (catL (ss.take i)).length + List.length ss[i] = totL (ss.take (i + 1)) := by rw [totL_cat, t1]
      rw [e]; exact Nat.le_trans (Nat.mul_le_mul_right _ t2) ht
    · have := hR trivial
      rw [← List.take_append_getElem hi, catL_snoc, ← wrap_succ hi hl] at this
      exact this
  · refine Eq.mpr (vcCatB2 ss _ ss.length ss.length _) ⟨fun h => not_lt_self h, fun _ => ?_⟩
    rw [List.take_length]; exact h
theorem cat_holds : Holds 48 conCat := conP_holds fun ss => by
  refine fun_meets2 (AllH.tok (.cons grow_holds (by kernel_rfl) .nil)) [] lsCat1 lsCat2 (by kernel_rfl) (by kernel_rfl) cat_sum1 cat_sum2 fun hpre => Eq.mpr (vcCatF ss _) ?_
  obtain ⟨p1, p2⟩ := hpre _ rfl
  exact ⟨fun hm => ⟨⟨rfl, rfl, rfl, hm, by omega⟩, ⟨⟨by omega, by omega⟩, ⟨fun _ => ⟨⟨rfl, rfl, rfl, hm, p2⟩, qfin rfl rfl rfl rfl⟩⟩⟩⟩⟩
theorem join_holds : Holds 24 conJoin := conP_holds fun s t => by
  refine fun_meets0 (AllH.tok (.cons cat_holds (by kernel_rfl) (.cons short_holds (by kernel_rfl) .nil))) [] (by kernel_rfl) (by kernel_rfl) fun hpre => Eq.mpr (vcJoinF s t _) ?_
  have hw : wtEds s + wtEds t ≤ wtMx := hpre _ rfl
  have e : catL [s, t] = s ++ t := by unfold catL; simp
  rw [e]
  have h1 := wtEds_len s
  have h2 := wtEds_len t
  refine ⟨⟨by simp, ?_⟩, ⟨by rw [wtEds_app]; exact hw, qfin rfl rfl rfl rfl⟩⟩
  simp only [totL]
  unfold wtMx at hw; unfold maxSl; omega
def conNothing : Con := conP [.row .edit] fun (_ : List Ed) => { res := .bool true }
theorem nothing_holds : Holds 7 conNothing := conP_holds fun s => by
  refine fun_meets0 (AllH.tok (.cons lo22_holds (by kernel_rfl) (.cons about_holds (by kernel_rfl) (.cons join_holds (by kernel_rfl) (.cons none22_holds (by kernel_rfl) .nil))))) [] (by kernel_rfl) (by kernel_rfl) fun hpre => Eq.mpr (vcNothingF s _) ?_
  refine ⟨fun _ => qfin rfl rfl rfl rfl, fun h => ?_⟩
  have hw := (long_wt (by decide) h).1
  refine ⟨by unfold wtMx; omega, ⟨by rw [wt_about]; unfold wtMx; omega, ⟨fun _ => ⟨fun _ => qfin rfl rfl rfl rfl⟩, fun h1 => ?_⟩⟩⟩
  rw [short_about] at h1; simp at h1
end Go.Proofs.Ytmkjjopflncedaa.AX
end
section
namespace Go.Proofs.Ytmkjjopflncedaa.AXP
open Go Go.Proofs.Ytmkjjopflncedaa.AX
def told1 (z : Nd) (x : Ed) : Bool := if (x.what == 1) = true then eqNd x.old z else if (x.what == 2) = true then eqNd x.new z else true
def toldB (z : Nd) (s : List Ed) : Bool := s.all (told1 z)
def zeroN : Nd := ⟨0, 0, ⟨#[]⟩, [], ⟨#[]⟩, []⟩
def toldS (s : List Ed) : Bool := toldB zeroN s
end Go.Proofs.Ytmkjjopflncedaa.AXP
namespace Go.Proofs.Ytmkjjopflncedaa.AX
open Go AXP
noncomputable def cxTold : Cx := cxT (tabLook [(38, conNode')])
def lsTold : LS where
  keep := [(3, .as), (7, .as), (8, .as), (9, .as)]
  left := [(2, .as)]
  sum := fun vs bs K => match vs, bs with
    | [.ptr 0 0, .row .edit s, .int .i64 m, .int .i64 i], [.box [.int .i64 c0, .int .i64 c1, .str c2, .nil, .str c4, .nil]] => Rq (m = s.length ∧ i = 0 ∧ s.length ≤ maxSl) (Br (toldB ⟨c0, c1, c2, [], c4, []⟩ s) (K (.exit 0) [.any] []) (K .ret [.bool false] []))
    | _, _ => False
def conTold : Con := conP [.row .edit] fun (s : List Ed) => { res := .bool (toldS s) }
noncomputable def cxShortL : Cx := cxC (tabLook [(13, conLg), (14, conLo 50), (23, conTold), (24, conJoin), (25, conShort), (22, conEdSame), (20, conApply), (19, conNodes), (15, conNone22)]) (coldAt 3 [7])
end Go.Proofs.Ytmkjjopflncedaa.AX
end
section
namespace Go.Proofs.Ytmkjjopflncedaa.AX
open Go AXP
set_option maxRecDepth 100000
theorem vcToldB (s : List Ed) (m i c0 c1 : Int) (c2 c4 : ByteArray) (K : Ex → List AV → List Blk → Prop) : (bodyA cxTold (LL Try.f23 [lsTold]) Try.f23.ntmps (loopAt Try.f23 0).1 (loopAt Try.f23 0).2 lsTold.keep lsTold.left K [.ptr 0 0, .row .edit s, .int .i64 m, .int .i64 i] [.box [.int .i64 c0, .int .i64 c1, .str c2, .nil, .str c4, .nil]]) = (
Br (decide (i < m))
  (Rq ((0 : Int) ≤ i ∧ i < (↑s.length : Int))
    (Br ((rd Ty.edit s i).1 == (1 : Int))
      (Br
        (!eqNd
            (Nd.mk (rd Ty.edit s i).old.1 (rd Ty.edit s i).old.2 (rd Ty.edit s i).old.3 (rd Ty.edit s i).old.4
              (rd Ty.edit s i).old.5 (rd Ty.edit s i).old.6)
            (Nd.mk c0 c1 c2 [] c4 []))
        (K Ex.ret [AV.bool false] [])
        (K Ex.norm
          [AV.ptr (0 : Nat) (0 : Nat), AV.row Ty.edit s, AV.int IntKind.i64 m,
            AV.int IntKind.i64 (IntKind.i64.wrap (i + (1 : Int)))]
          [Blk.box [AV.int IntKind.i64 c0, AV.int IntKind.i64 c1, AV.str c2, AV.nil, AV.str c4, AV.nil]]))
      (Br ((rd Ty.edit s i).1 == (2 : Int))
        (Br
          (!eqNd
              (Nd.mk (rd Ty.edit s i).new.1 (rd Ty.edit s i).new.2 (rd Ty.edit s i).new.3 (rd Ty.edit s i).new.4
                (rd Ty.edit s i).new.5 (rd Ty.edit s i).new.6)
              (Nd.mk c0 c1 c2 [] c4 []))
          (K Ex.ret [AV.bool false] [])
          (K Ex.norm
            [AV.ptr (0 : Nat) (0 : Nat), AV.row Ty.edit s, AV.int IntKind.i64 m,
              AV.int IntKind.i64 (IntKind.i64.wrap (i + (1 : Int)))]
            [Blk.box [AV.int IntKind.i64 c0, AV.int IntKind.i64 c1, AV.str c2, AV.nil, AV.str c4, AV.nil]]))
        (K Ex.norm
          [AV.ptr (0 : Nat) (0 : Nat), AV.row Ty.edit s, AV.int IntKind.i64 m,
            AV.int IntKind.i64 (IntKind.i64.wrap (i + (1 : Int)))]
          [Blk.box [AV.int IntKind.i64 c0, AV.int IntKind.i64 c1, AV.str c2, AV.nil, AV.str c4, AV.nil]]))))
  (K (Ex.exit (0 : Nat)) [AV.any] [])) := by kernel_rfl
theorem vcToldF (s : List Ed) (Q : List AV → List Blk → List Blk → Prop) : (funA cxTold (LL Try.f23 [lsTold]) Try.f23 [.row .edit s] [] [] Q) = (
Gv (s.length ≤ maxSl)
  (Rq ((↑s.length : Int) = (↑s.length : Int) ∧ (0 : Int) = (0 : Int) ∧ s.length ≤ maxSl)
    (Br (toldB (Nd.mk (0 : Int) (0 : Int) (ByteArray.mk (Array.mk [])) [] (ByteArray.mk (Array.mk [])) []) s)
      (Q [AV.bool true] [] []) (Q [AV.bool false] [] [])))) := by kernel_rfl
theorem vcShortLF (l : List Nd) (s t : List Ed) (Q : List AV → List Blk → List Blk → Prop) : (funA cxShortL (LL Try.f6 []) Try.f6 [.row .node l, .row .edit s, .row .edit t] [] [] Q) = (
Br (largeB l) (Q [AV.bool true] [] [])
  (Br (longB (50 : Int) s) (Q [AV.bool true] [] [])
    (Br (longB (50 : Int) t) (Q [AV.bool true] [] [])
      (Br (!toldS s) (Q [AV.bool true] [] [])
        (Br (!toldS t) (Q [AV.bool true] [] [])
          (Rq (wtEds s + wtEds t ≤ wtMx)
            (Br (decide ((↑(shortS (s ++ t)).length : Int) > IntKind.i64.wrap ((↑s.length : Int) + (↑t.length : Int))))
              (Gv ((shortS (s ++ t)).length ≤ maxSl)
                (Gv (s.length ≤ maxSl) (Gv (t.length ≤ maxSl) (Q [AV.bool false] [] []))))
              (Rq (wtEds (shortS (s ++ t)) ≤ wtMx)
                (Gv ((shortS (s ++ t)).length ≤ maxSl)
                  (Gv (s.length ≤ maxSl)
                    (Gv (t.length ≤ maxSl)
                      (Br (!eql eqEd (shortS (shortS (s ++ t))) (shortS (s ++ t))) (Q [AV.bool false] [] [])
                        (Rq (s.length * (224 : Nat) ≤ maxSl)
                          (Rq ((s.length + t.length) * (224 : Nat) ≤ maxSl)
                            (Rq ((2 : Nat) * (wtNds l + wtEds (s ++ t)) ≤ wtMx)
                              (Br (applyE l (s ++ t) != (0 : Int)) (Q [AV.bool true] [] [])
                                (Rq ((2 : Nat) * (wtNds l + wtEds (shortS (s ++ t))) ≤ wtMx)
                                  (Br (applyE l (shortS (s ++ t)) == (0 : Int))
                                    (Br (eql eqNd (applyL l (shortS (s ++ t))) (applyL l (s ++ t)))
                                      (Q [AV.bool true] [] []) (Q [AV.bool false] [] []))
                                    (Q [AV.bool false] [] []))))))))))))))))))) := by kernel_rfl
end Go.Proofs.Ytmkjjopflncedaa.AX
end
section
namespace Go.Proofs.Ytmkjjopflncedaa.AXP
open Go Go.Proofs.Ytmkjjopflncedaa.AX
theorem short_fin : ∀ (n : Nat) (l : List Ed), l.length ≤ n → firstN cancelB (shortS l) = none ∧ firstN meltB (shortS l) = none
  | 0, l, h => by
    have : l = [] := List.eq_nil_of_length_eq_zero (by omega)
    subst this
    rw [shortS_done rfl rfl]; exact ⟨rfl, rfl⟩
  | n + 1, l, h => by
    cases h1 : firstN cancelB l with
    | some i =>
      have := firstN_lt h1
      rw [shortS_del h1]
      refine short_fin n _ ?_
      unfold delTwo; simp only [List.length_append, List.length_take, List.length_drop]; omega
    | none =>
      cases h2 : firstN meltB l with
      | some i =>
        have := firstN_lt h2
        rw [shortS_melt h1 h2]
        refine short_fin n _ ?_
        rw [meltAt_eq this]; simp only [List.length_append, List.length_take, List.length_drop, List.length_cons, List.length_nil]; omega
      | none => rw [shortS_done h1 h2]; exact ⟨h1, h2⟩
theorem short_short (l : List Ed) : shortS (shortS l) = shortS l := by
  obtain ⟨h1, h2⟩ := short_fin _ l (Nat.le_refl _)
  exact shortS_done h1 h2
theorem at_put {l : List Nd} {way : List Int} {n : Nd} (h : atW l way = some n) (m : Nd) : atW (putW l way m) way = some m ∧ ∀ m', putW (putW l way m) way m' = putW l way m' := by
  obtain ⟨xs, hw, hs, hi, hlt, hn⟩ := at_some h
  have e : putW l way m = plugS l way.dropLast (xs.set (lastW way).toNat m) := by
    show onW _ _ _ = _
    rw [on_of (fun xs i => putAt xs i m) hs, putAt_set _ hlt]
  have hs' := steps_plug (xs.set (lastW way).toNat m) hs
  rw [← e] at hs'
  refine ⟨?_, fun m' => ?_⟩
  · have := at_of hw hs' (by rw [inB_len (l := xs) (by rw [List.length_set])]; exact hi) (by rw [List.length_set]; exact hlt)
    rw [List.getElem_set_self] at this
    exact this
  · show onW _ _ _ = onW _ _ _
    rw [on_of (fun xs i => putAt xs i m') hs', on_of (fun xs i => putAt xs i m') hs, putAt_set _ (by rw [List.length_set]; exact hlt), putAt_set _ hlt, List.set_set, e, plug_plug _ _ hs]
theorem step_put {l l' : List Nd} {x : Ed} (hx : x.what = 3 ∨ x.what = 4) : stepEd l x = .ok l' ↔ ∃ n, atW l x.way = some n ∧ okAt n x = true ∧ l' = putW l x.way (chgNd n x) := by
  have h1 : (x.what == 1) = false := by rcases hx with h | h <;> rw [h] <;> rfl
  have h2 : (x.what == 2) = false := by rcases hx with h | h <;> rw [h] <;> rfl
  have h3 : (x.what == 2 || x.what == 3 || x.what == 4) = true := by rcases hx with h | h <;> rw [h] <;> rfl
  unfold stepEd
  rw [if_neg (by rw [h1]; decide), if_pos h3]
  cases ha : atW l x.way with
  | none => exact ⟨fun h => (by cases h), fun ⟨n, h, _⟩ => (by cases h)⟩
  | some n =>
    simp only [h2, Bool.false_eq_true, if_false]
    constructor
    · intro h
      split at h
      · rename_i hok
        injection h with h
        exact ⟨n, rfl, hok, h.symm⟩
      · cases h
    · rintro ⟨n', e, hok, rfl⟩
      injection e with e
      subst e
      rw [if_pos hok]
theorem melt_spec {x y : Ed} (h : meltB x y = true) : x.what = y.what ∧ x.way = y.way ∧ (x.what = 4 ∧ x.new.text = y.old.text ∨ x.what = 3 ∧ x.new.attrs = y.old.attrs) := by
  unfold meltB at h
  split at h
  · cases h
  · rename_i h1
    simp only [Bool.or_eq_true, bne_iff_ne, ne_eq, Bool.not_eq_true', not_or, Decidable.not_not, Bool.not_eq_false] at h1
    refine ⟨h1.1, (eql_iff eqI_iff).1 h1.2, ?_⟩
    split at h
    · rename_i h2; exact .inl ⟨by simpa using h2, eqS_iff.1 h⟩
    · split at h
      · rename_i h3; exact .inr ⟨by simpa using h3, (eql_iff eqAt_iff).1 h⟩
      · cases h
theorem step_melt {l l1 l2 : List Nd} {x y : Ed} (h : meltB x y = true) (h1 : stepEd l x = .ok l1) (h2 : stepEd l1 y = .ok l2) : stepEd l { x with new := y.new } = .ok l2 := by
  obtain ⟨e1, e2, e3⟩ := melt_spec h
  have hx : x.what = 3 ∨ x.what = 4 := by rcases e3 with ⟨h, _⟩ | ⟨h, _⟩; exact .inr h; exact .inl h
  obtain ⟨n, a1, a2, rfl⟩ := (step_put hx).1 h1
  obtain ⟨n1, b1, b2, rfl⟩ := (step_put (by rw [← e1]; exact hx)).1 h2
  obtain ⟨c1, c2⟩ := at_put a1 (chgNd n x)
  rw [← e2, c1] at b1
  injection b1 with b1
  subst b1
  refine (step_put (x := { x with new := y.new }) hx).2 ⟨n, a1, a2, ?_⟩
  rw [← e2, c2]
  congr 1
  unfold chgNd
  dsimp only
  rw [← e1]
  rcases hx with h | h <;> rw [h] <;> rfl
theorem melt_apply {l m : List Nd} {s : List Ed} {i : Nat} (h : firstN meltB s = some i) (ha : applyS l s = .ok m) : applyS l (meltAt s i) = .ok m := by
  obtain ⟨h1, h2⟩ := firstN_sat h
  rw [meltAt_eq h1, List.append_assoc, applyS_app]
  have hl := list_two h1
  have e : applyS l s = applyS l (s.take i ++ s[i] :: s[i + 1] :: s.drop (i + 2)) := by rw [← hl]
  rw [e, applyS_app] at ha
  cases hq : applyS l (s.take i) with
  | error e => rw [hq] at ha; cases ha
  | ok l0 =>
    rw [hq] at ha
    simp only [applyS] at ha
    cases q1 : stepEd l0 s[i] with
    | error e => rw [q1] at ha; cases ha
    | ok l1 =>
      rw [q1] at ha
      simp only at ha
      cases q2 : stepEd l1 s[i + 1] with
      | error e => rw [q2] at ha; cases ha
      | ok l2 =>
        rw [q2] at ha
        simp only at ha
        simp only [List.cons_append, List.nil_append, applyS, step_melt h2 q1 q2]
        exact ha
theorem del_apply {l m : List Nd} {s : List Ed} {i : Nat} (h : firstN cancelB s = some i) (ha : applyS l s = .ok m) : applyS l (delTwo s i) = .ok m := by
  obtain ⟨h1, h2⟩ := firstN_sat h
  unfold delTwo
  rw [applyS_app]
  have hy := (cancel_iff _ _).1 h2
  have hl := list_two h1
  have e : applyS l s = applyS l (s.take i ++ s[i] :: s[i + 1] :: s.drop (i + 2)) := by rw [← hl]
  rw [e, hy, applyS_app] at ha
  cases hq : applyS l (s.take i) with
  | error e => rw [hq] at ha; cases ha
  | ok l0 =>
    rw [hq] at ha
    simp only [applyS] at ha
    cases q1 : stepEd l0 s[i] with
    | error e => rw [q1] at ha; cases ha
    | ok l1 =>
      rw [q1] at ha
      simp only [step_back q1] at ha
      exact ha
theorem short_apply : ∀ (n : Nat) {l m : List Nd} {s : List Ed}, s.length ≤ n → applyS l s = .ok m → applyS l (shortS s) = .ok m
  | 0, l, m, s, h, ha => by
    have : s = [] := List.eq_nil_of_length_eq_zero (by omega)
    subst this
    rw [shortS_done rfl rfl]; exact ha
  | n + 1, l, m, s, h, ha => by
    cases h1 : firstN cancelB s with
    | some i =>
      have := firstN_lt h1
      rw [shortS_del h1]
      refine short_apply n ?_ (del_apply h1 ha)
      unfold delTwo; simp only [List.length_append, List.length_take, List.length_drop]; omega
    | none =>
      cases h2 : firstN meltB s with
      | some i =>
        have := firstN_lt h2
        rw [shortS_melt h1 h2]
        refine short_apply n ?_ (melt_apply h2 ha)
        rw [meltAt_eq this]; simp only [List.length_append, List.length_take, List.length_drop, List.length_cons, List.length_nil]; omega
      | none => rw [shortS_done h1 h2]; exact ha
theorem told_take {z : Nd} {s : List Ed} {i : Nat} (h : i < s.length) : toldB z (s.take (i + 1)) = (toldB z (s.take i) && told1 z s[i]) := by
  unfold toldB; rw [← List.take_append_getElem h, List.all_append]; simp
theorem told_bad {z : Nd} {s : List Ed} {i : Nat} (h : i < s.length) (hb : told1 z s[i] = false) : toldB z s = false := by
  unfold toldB
  cases e : s.all (told1 z) with
  | false => rfl
  | true => rw [List.all_eq_true] at e; rw [e _ (List.getElem_mem h)] at hb; cases hb
end Go.Proofs.Ytmkjjopflncedaa.AXP
namespace Go.Proofs.Ytmkjjopflncedaa.AX
open Go AXP
set_option maxRecDepth 100000
theorem told_sum : SumOK cxTold (LL Try.f23 [lsTold]) Try.f23.ntmps (loopAt Try.f23 0).1 (loopAt Try.f23 0).2 lsTold := by
  intro vs bs K hs
  unfold lsTold at hs
  simp only at hs
  split at hs
  case h_2 => exact hs.elim
  rename_i s m i c0 c1 c2 c4
  obtain ⟨⟨rfl, rfl, hl⟩, h⟩ := hs
  refine sum_for (fun i => toldB ⟨c0, c1, c2, [], c4, []⟩ (s.take i) = true) (fun i => [.ptr 0 0, .row .edit s, .int .i64 s.length, .int .i64 i]) (fun _ => [.box [.int .i64 c0, .int .i64 c1, .str c2, .nil, .str c4, .nil]]) s.length (fun i hi hp R hR => ?_) (fun hp R => ?_) rfl
  · refine Eq.mpr (vcToldB s s.length i c0 c1 c2 c4 _) ⟨fun _ => ⟨⟨by omega, by omega⟩, ?_⟩, fun h => lt_of h hi⟩
    rw [rd_ed hi, wrap_succ hi hl]
    simp only [nd_eta]
    have next : told1 ⟨c0, c1, c2, [], c4, []⟩ s[i] = true → R [.ptr 0 0, .row .edit s, .int .i64 s.length, .int .i64 (i + 1 : Nat)] [.box [.int .i64 c0, .int .i64 c1, .str c2, .nil, .str c4, .nil]] := fun ht => hR (by rw [told_take hi, hp, ht]; rfl)
    refine ⟨fun h1 => ⟨fun h2 => h.no (told_bad hi ?_), fun h2 => next ?_⟩, fun h1 => ⟨fun h2 => ⟨fun h3 => h.no (told_bad hi ?_), fun h3 => next ?_⟩, fun h2 => next ?_⟩⟩ <;> unfold told1
    · rw [if_pos h1]; exact ret_false h2
    · rw [if_pos h1]; exact ret_true h2
    · rw [if_neg (by rw [h1]; decide), if_pos h2]; exact ret_false h3
    · rw [if_neg (by rw [h1]; decide), if_pos h2]; exact ret_true h3
    · rw [if_neg (by rw [h1]; decide), if_neg (by rw [h2]; decide)]
  · refine Eq.mpr (vcToldB s s.length s.length c0 c1 c2 c4 _) ⟨fun h => not_lt_self h, fun _ => h.yes ?_⟩
    rw [List.take_length] at hp; exact hp
theorem told_holds : Holds 23 conTold := conP_holds fun s => by
  refine fun_meets1 (AllH.tok (.cons node_holds (by kernel_rfl) .nil)) [] lsTold (by kernel_rfl) (by kernel_rfl) told_sum fun hpre => Eq.mpr (vcToldF s _) ?_
  refine ⟨fun hm => ⟨⟨rfl, rfl, hm⟩, ⟨fun h => qfin rfl ?_ rfl rfl, fun h => qfin rfl ?_ rfl rfl⟩⟩⟩ <;> show _ = [AV.bool (toldB zeroN s)]
  · rw [show toldB zeroN s = true from h]
  · rw [show toldB zeroN s = false from h]
def conShortL : Con := conP [.row .node, .row .edit, .row .edit] fun (_ : List Nd) (_ _ : List Ed) => { res := .bool true }
theorem shortL_holds : Holds 6 conShortL := conP_holds fun l s t => by
  refine fun_meets0C (AllH.tok (.cons lg22_holds (by kernel_rfl) (.cons lo22_holds (by kernel_rfl) (.cons told_holds (by kernel_rfl) (.cons join_holds (by kernel_rfl) (.cons short_holds (by kernel_rfl) (.cons edSame_holds (by kernel_rfl) (.cons apply_holds (by kernel_rfl) (.cons nodes_holds (by kernel_rfl) (.cons none22_holds (by kernel_rfl) .nil)))))))))) (coldAt 3 [7]) [] (by kernel_rfl) (by kernel_rfl) fun hpre => Eq.mpr (vcShortLF l s t _) ?_
  refine ⟨fun _ => qfin rfl rfl rfl rfl, fun h1 => ⟨fun _ => qfin rfl rfl rfl rfl, fun h2 => ⟨fun _ => qfin rfl rfl rfl rfl, fun h3 => ⟨fun _ => qfin rfl rfl rfl rfl, fun _ => ⟨fun _ => qfin rfl rfl rfl rfl, fun _ => ?_⟩⟩⟩⟩⟩
  have w1 := large_wt h1
  have w2 := (long_wt (by decide) h2).1
  have w3 := (long_wt (by decide) h3).1
  have hsl := short_len _ (s ++ t) (Nat.le_refl _)
  have hwt := wtEds_app s t
  have hls := wtEds_len s
  have hlt := wtEds_len t
  refine ⟨by unfold wtMx; omega, ⟨fun h => ?_, fun _ => ⟨by unfold wtMx; omega, ⟨fun _ => ⟨fun _ => ⟨fun _ => ⟨fun h => ?_, fun _ => ⟨by unfold maxSl; omega, ⟨by unfold maxSl; omega, ⟨by rw [hwt]; unfold wtMx; omega, ⟨fun _ => qfin rfl rfl rfl rfl, fun h4 => ?_⟩⟩⟩⟩⟩⟩⟩⟩⟩⟩⟩
  · have h := of_decide_eq_true h
    rw [wrap_id' (by omega) (by omega)] at h
    have := hsl.1
    rw [List.length_append] at this
    omega
  · rw [short_short, eql_self eqEd_self] at h; cases h
  · have h4 : applyE l (s ++ t) = 0 := by simpa using h4
    have h5 := applyE_zero h4
    have h6 := applyE_ok (short_apply _ (Nat.le_refl _) h5)
    refine ⟨by unfold wtMx; omega, ⟨fun _ => ⟨fun _ => qfin rfl rfl rfl rfl, fun h => ?_⟩, fun h => ?_⟩⟩
    · rw [h6.2, eql_self eqNd_self] at h; cases h
    · rw [h6.1] at h; cases h
end Go.Proofs.Ytmkjjopflncedaa.AX
end
section
namespace Go.Proofs.Ytmkjjopflncedaa.AX
open Go Go.RowKit
theorem list_of {α : Type} {Q : Nat → α → Prop} : ∀ n : Nat, (∀ i, i < n → ∃ x, Q i x) → ∃ l : List α, l.length = n ∧ ∀ i x, l[i]? = some x → Q i x
  | 0, _ => ⟨[], rfl, fun i x h => by simp at h⟩
  | n + 1, h => by
    obtain ⟨l, hl, hq⟩ := list_of n fun i hi => h i (by omega)
    obtain ⟨x, hx⟩ := h n (by omega)
    refine ⟨l ++ [x], by rw [List.length_append, hl]; rfl, fun i y hy => ?_⟩
    rcases Nat.lt_or_ge i n with z | z
    · rw [List.getElem?_append_left (by omega)] at hy; exact hq i y hy
    · rw [List.getElem?_append_right (by omega), hl] at hy
      have : i - n = 0 := by
        rcases Nat.eq_zero_or_pos (i - n) with w | w
        · exact w
        · rw [List.getElem?_eq_none (by simp only [List.length_cons, List.length_nil]; omega)] at hy; cases hy
      rw [this] at hy
      obtain rfl : x = y := by simpa using hy
      obtain rfl : i = n := by omega
      exact hx
theorem mapM_spec {α : Type} (f : Nat → Option α) : ∀ (l : List Nat) (cs : List α), l.mapM f = some cs → cs.length = l.length ∧ ∀ (j : Nat) (u : α), cs[j]? = some u → ∃ i, l[j]? = some i ∧ f i = some u
  | [], cs, h => by simp at h; subst h; exact ⟨rfl, fun j u h => by simp at h⟩
  | i :: l, cs, h => by
    simp only [List.mapM_cons, Option.bind_eq_bind, Option.bind_eq_some_iff, Option.pure_def, Option.some.injEq] at h
    obtain ⟨x, hx, ys, hy, rfl⟩ := h
    obtain ⟨h1, h2⟩ := mapM_spec f l ys hy
    refine ⟨by simp [h1], fun j u hu => ?_⟩
    cases j with
    | zero => simp at hu; subst hu; exact ⟨i, rfl, hx⟩
    | succ j => simpa using h2 j u (by simpa using hu)
theorem cells_spec {w : World} {base n : Nat} {a : Addr} {cs : List Value} (h : w.cells? base a n = some cs) : cs.length = n ∧ ∀ j u, cs[j]? = some u → w.cell? (a.add j) = some u := by
  unfold World.cells? at h
  split at h
  · obtain ⟨h1, h2⟩ := mapM_spec _ _ _ h
    refine ⟨by simpa using h1, fun j u hu => ?_⟩
    obtain ⟨i, hi, hf⟩ := h2 j u hu
    obtain ⟨hlt, e⟩ := List.getElem?_eq_some_iff.1 hi
    simp at e
    subst e
    exact hf
  · cases h
theorem spot_of {w : World} {a : Addr} {v : Value} (h : w.cell? a = some v) : a.spot = none := by
  unfold World.cell? at h
  split at h
  · split at h
    · cases h
    · rename_i hs; simpa using hs
  · cases h
section
variable {H : Type} {enc : TypeId × Value → H} {w : World} {base : Nat} {spare : Nat → Bool} {held : Bool} {O : Nat → Prop} {I : Im}
def Small (t : TypeId) (d : DataW H) : Prop := ∀ n ∈ d.weights Try.prog t, n ≤ reachBytes
theorem small_all {e : TypeId} : ∀ {ds : List (DataW H)} {i : Nat} {d : DataW H}, ds[i]? = some d → ∀ n ∈ d.weights Try.prog e, n ∈ DataW.weightsAll Try.prog e ds
  | [], _, _, h, _, _ => by simp at h
  | x :: ds, 0, d, h, n, hn => by simp at h; subst h; rw [DataW.weightsAll]; exact List.mem_append.2 (.inl hn)
  | x :: ds, i + 1, d, h, n, hn => by rw [DataW.weightsAll]; exact List.mem_append.2 (.inr (small_all (by simpa using h) n hn))
theorem open_row {t : Ty} {e sl : TypeId} (hu : Try.prog.underlying sl = some (.slice e)) (hc : Try.prog.cellsOf e = width t) (hb : 1 ≤ Try.prog.bytesOf e) (hO : ∀ b, ¬ O b)
    {m : Nat} {cs : List Value} {y : DataW H × List MemPlace} (h : DataW.trod enc Try.prog w base spare held m sl cs = some y) (hs : Small sl y.1)
    (hel : ∀ (n : Nat) (c : List Value) (z : DataW H × List MemPlace), n < m → c.length = width t → DataW.trod enc Try.prog w base spare held n e c = some z → Small e z.1 → ∃ x : den t, All2 (LeafR w O I) c (leaves t x)) :
    ∃ (v : Value) (l : List (den t)), cs = [v] ∧ LeafR w O I v (.row t l) := by
  rcases DataW.trod_slice hu h with ⟨rfl, _⟩ | ⟨a, len, cap, elems, rest, n, rfl, rfl, rfl, _, hl, _, hlen, hels, _, _⟩
  · exact ⟨_, [], rfl, .row0 t⟩
  · have hW := width_pos t
    rw [hc] at hels
    have hsz : len ≤ maxSl := by
      have h1 := hs ((((elems.map (·.1)).length + (rest.map (·.1)).length) * Try.prog.bytesOf e)) (by simp only [DataW.weights, hu]; exact .head _)
      simp only [List.length_map] at h1
      have : len ≤ (elems.length + rest.length) * Try.prog.bytesOf e := by
        rw [hlen]; exact Nat.le_trans (Nat.le_add_right _ _) (Nat.le_mul_of_pos_right _ hb)
      unfold reachBytes at h1
      unfold maxSl
      omega
    obtain ⟨l, hll, hq⟩ := list_of (Q := fun i (x : den t) => ∃ c : List Value, c.length = width t ∧ All2 (LeafR w O I) c (leaves t x) ∧ ∀ j u, c[j]? = some u → w.cell? (a.add (i * width t + j)) = some u) len fun i hi => by
      have h1 := hels i hi
      obtain ⟨z, hz⟩ : ∃ z, elems[i]? = some z := ⟨_, List.getElem?_eq_getElem (by omega)⟩
      rw [hz] at h1
      obtain ⟨c, hcc, ht⟩ := Option.bind_eq_some_iff.1 h1
      obtain ⟨g1, g2⟩ := cells_spec hcc
      have hsz' : Small e z.1 := fun k hk => hs k (by
        simp only [DataW.weights, hu]
        exact .tail _ (List.mem_append.2 (.inl (small_all (i := i) (by rw [List.getElem?_map, hz]; rfl) k hk))))
      obtain ⟨x, hx⟩ := hel n c z (Nat.lt_succ_self _) g1 ht hsz'
      refine ⟨x, c, g1, hx, fun j u hu' => ?_⟩
      have := g2 j u hu'
      unfold Addr.add at this ⊢
      by_cases hj : j = 0
      · subst hj; simpa using this
      · rw [if_neg hj] at this
        rw [if_neg (by omega)]
        split at this
        · rename_i h0; rw [h0, Nat.zero_add]; exact this
        · simpa [Nat.add_assoc] using this
    refine ⟨_, l, rfl, ?_⟩
    rcases Nat.eq_zero_or_pos len with h0 | h0
    · have : l = [] := List.eq_nil_of_length_eq_zero (by omega)
      subst this
      subst h0
      exact .rowz a cap t
    · have hcell : ∀ j, j < len * width t → ∃ u, w.cell? (a.add j) = some u ∧ ∀ x, (cellsOf t l)[j]? = some x → LeafR w O I u x := fun j hj => by
        have hd : j / width t < l.length := by rw [hll]; exact Nat.div_lt_of_lt_mul (by rw [Nat.mul_comm]; exact hj)
        obtain ⟨c, k1, k2, k3⟩ := hq (j / width t) l[j / width t] (List.getElem?_eq_getElem hd)
        have hm : j % width t < c.length := by rw [k1]; exact Nat.mod_lt _ hW
        have h3 := k3 (j % width t) c[j % width t] (List.getElem?_eq_getElem hm)
        have hj' : j / width t * width t + j % width t = j := by rw [Nat.mul_comm]; exact Nat.div_add_mod j (width t)
        rw [hj'] at h3
        refine ⟨_, h3, fun x hx => ?_⟩
        rw [cellsOf_get hd] at hx
        obtain ⟨y', hy', hr⟩ := k2.get' (List.getElem?_eq_getElem hm)
        rw [hx] at hy'; injection hy' with hy'; subst hy'; exact hr
      obtain ⟨b, off, sp⟩ := a
      obtain ⟨u0, hu0, _⟩ := hcell 0 (Nat.mul_pos h0 hW)
      have hsp : sp = none := spot_of hu0
      subst hsp
      have key := LeafR.row (w := w) (O := O) (I := I) b off cap t l ((List.range (len * width t)).map fun j => (w.cell? ⟨b, off + j, none⟩).getD (.bool false)) (fun _ => hO b) (by omega) (by omega) (fun j u hu' => ?_) (by simp only [List.length_map, List.length_range]; rw [cellsOf_length, hll]) (fun j u x hu' hx => ?_)
      · rw [hll] at key; exact key
      · simp only [List.getElem?_map, Option.map_eq_some_iff] at hu'
        obtain ⟨k, hk, rfl⟩ := hu'
        obtain ⟨hlt, e'⟩ := List.getElem?_eq_some_iff.1 hk
        simp at e' hlt
        subst e'
        obtain ⟨u1, hu1, _⟩ := hcell j hlt
        have e2 : (⟨b, off, none⟩ : Addr).add j = ⟨b, off + j, none⟩ := by unfold Addr.add; split <;> simp_all
        rw [e2] at hu1
        rw [hu1]; rfl
      · simp only [List.getElem?_map, Option.map_eq_some_iff] at hu'
        obtain ⟨k, hk, rfl⟩ := hu'
        obtain ⟨hlt, e'⟩ := List.getElem?_eq_some_iff.1 hk
        simp at e' hlt
        subst e'
        obtain ⟨u1, hu1, hr⟩ := hcell j hlt
        have e2 : (⟨b, off, none⟩ : Addr).add j = ⟨b, off + j, none⟩ := by unfold Addr.add; split <;> simp_all
        rw [e2] at hu1
        rw [hu1]
        exact hr x hx
/-- A field's reading. -/
theorem field_of {t : TypeId} {fs : Array Field} (hu : Try.prog.underlying t = some (.struct fs)) {m : Nat} {cs : List Value} {y : DataW H × List MemPlace} (h : DataW.trod enc Try.prog w base spare held m t cs = some y) (hs : Small t y.1) (i : Nat) (f : Field) (hf : fs[i]? = some f) :
    ∃ (n : Nat) (z : DataW H × List MemPlace), n < m ∧ DataW.trod enc Try.prog w base spare held n f.type ((cs.drop f.offset).take (Try.prog.cellsOf f.type)) = some z ∧ Small f.type z.1 := by
  obtain ⟨xs, n, rfl, rfl, _, hlen, hff⟩ := DataW.trod_struct hu h
  have hlt : i < xs.length := by rw [hlen]; exact (Array.getElem?_eq_some_iff.1 hf).1
  refine ⟨n, xs[i], Nat.lt_succ_self _, by rw [hff i f hf, List.getElem?_eq_getElem hlt], fun k hk => hs k ?_⟩
  simp only [DataW.weights, hu]
  refine DataW.weights_mem_each (j := i) (t := f.type) (d := xs[i].1) ?_ ?_ k hk
  · rw [List.getElem?_map, Array.getElem?_toList, hf]; rfl
  · rw [List.getElem?_map, List.getElem?_eq_getElem hlt]; rfl
theorem struct_len {t : TypeId} {fs : Array Field} (hu : Try.prog.underlying t = some (.struct fs)) {m : Nat} {cs : List Value} {y : DataW H × List MemPlace} (h : DataW.trod enc Try.prog w base spare held m t cs = some y) : cs.length = Try.prog.cellsOf t := by
  obtain ⟨_, _, _, _, hl, _, _⟩ := DataW.trod_struct hu h
  exact hl
theorem open_int1 {m : Nat} {cs : List Value} {y : DataW H × List MemPlace} (h : DataW.trod enc Try.prog w base spare held m 3 cs = some y) : ∃ n, cs = [.int .i64 n] := by
  obtain ⟨n, e, _, _⟩ := DataW.trod_int Try.underlying3 h
  exact ⟨n, e⟩
theorem open_str1 {m : Nat} {cs : List Value} {y : DataW H × List MemPlace} (h : DataW.trod enc Try.prog w base spare held m 9 cs = some y) (hs : Small 9 y.1) : ∃ s : ByteArray, cs = [.string s] ∧ s.size ≤ maxSl := by
  obtain ⟨s, e, rfl, _⟩ := DataW.trod_string Try.underlying9 h
  refine ⟨s, e, ?_⟩
  have := hs s.data.toList.length (by simp [DataW.weights])
  rw [Array.length_toList] at this
  have h2 : s.size ≤ reachBytes := this
  unfold reachBytes at h2
  unfold maxSl
  omega
theorem cells_int : Try.prog.cellsOf 3 = 1 := by kernel_rfl
theorem cells_str : Try.prog.cellsOf 9 = 1 := by kernel_rfl
theorem cells_ints : Try.prog.cellsOf 58 = 1 := by kernel_rfl
theorem cells_ats : Try.prog.cellsOf 51 = 1 := by kernel_rfl
theorem cells_nds : Try.prog.cellsOf 22 = 1 := by kernel_rfl
theorem cells_at : Try.prog.cellsOf 95 = 2 := by kernel_rfl
theorem cells_nd : Try.prog.cellsOf 53 = 6 := by kernel_rfl
theorem cells_ed : Try.prog.cellsOf 60 = 14 := by kernel_rfl
theorem open_ints (hO : ∀ b, ¬ O b) {m : Nat} {cs : List Value} {y : DataW H × List MemPlace} (h : DataW.trod enc Try.prog w base spare held m 58 cs = some y) (hs : Small 58 y.1) : ∃ (v : Value) (l : List Int), cs = [v] ∧ LeafR w O I v (.row .int l) :=
  open_row (t := .int) Try.underlying58 cells_int (Nat.le_of_ble_eq_true (by kernel_rfl)) hO h hs fun n c z _ _ hz _ => by
    obtain ⟨k, rfl⟩ := open_int1 hz
    exact ⟨k, .cons (.int _ _) .nil⟩
set_option maxRecDepth 100000
theorem open_ats (hO : ∀ b, ¬ O b) {m : Nat} {cs : List Value} {y : DataW H × List MemPlace} (h : DataW.trod enc Try.prog w base spare held m 51 cs = some y) (hs : Small 51 y.1) : ∃ (v : Value) (l : List At), cs = [v] ∧ LeafR w O I v (.row .attr l) :=
  open_row (t := .attr) Try.underlying51 cells_at (Nat.le_of_ble_eq_true (by kernel_rfl)) hO h hs fun n c z _ hl hz hsz => by
    obtain ⟨_, z0, _, g0, s0⟩ := field_of Try.underlying95 hz hsz 0 _ rfl
    obtain ⟨_, z1, _, g1, s1⟩ := field_of Try.underlying95 hz hsz 1 _ rfl
    obtain ⟨x0, e0, b0⟩ := open_str1 g0 s0
    obtain ⟨x1, e1, b1⟩ := open_str1 g1 s1
    match c, hl with
    | [c0, c1], _ =>
      simp [cells_str] at e0 e1
      subst e0 e1
      exact ⟨⟨x0, x1⟩, .cons (.str _ b0) (.cons (.str _ b1) .nil)⟩
theorem open_nd (hO : ∀ b, ¬ O b) : ∀ (m : Nat) {cs : List Value} {y : DataW H × List MemPlace}, DataW.trod enc Try.prog w base spare held m 53 cs = some y → Small 53 y.1 → ∃ x : Nd, All2 (LeafR w O I) cs (nodeL x) := by
  intro m
  induction m using Nat.strongRecOn with
  | ind m ih =>
    intro cs y h hs
    obtain ⟨_, z0, _, g0, s0⟩ := field_of Try.underlying53 h hs 0 _ rfl
    obtain ⟨_, z1, _, g1, s1⟩ := field_of Try.underlying53 h hs 1 _ rfl
    obtain ⟨_, z2, _, g2, s2⟩ := field_of Try.underlying53 h hs 2 _ rfl
    obtain ⟨_, z3, _, g3, s3⟩ := field_of Try.underlying53 h hs 3 _ rfl
    obtain ⟨_, z4, _, g4, s4⟩ := field_of Try.underlying53 h hs 4 _ rfl
    obtain ⟨n5, z5, l5, g5, s5⟩ := field_of Try.underlying53 h hs 5 _ rfl
    have hlen := struct_len Try.underlying53 h
    rw [cells_nd] at hlen
    obtain ⟨x0, e0⟩ := open_int1 g0
    obtain ⟨x1, e1⟩ := open_int1 g1
    obtain ⟨x2, e2, b2⟩ := open_str1 g2 s2
    obtain ⟨v3, x3, e3, r3⟩ := open_ats (I := I) hO g3 s3
    obtain ⟨x4, e4, b4⟩ := open_str1 g4 s4
    obtain ⟨v5, x5, e5, r5⟩ := open_row (t := .node) (I := I) Try.underlying22 cells_nd (Nat.le_of_ble_eq_true (by kernel_rfl)) hO g5 s5 fun n c z hn _ hz hsz => ih n (by omega) hz hsz
    match cs, hlen with
    | [c0, c1, c2, c3, c4, c5], _ =>
      simp [cells_int, cells_str, cells_ats, cells_nds] at e0 e1 e2 e3 e4 e5
      subst e0 e1 e2 e3 e4 e5
      exact ⟨⟨x0, x1, x2, x3, x4, x5⟩, .cons (.int _ _) (.cons (.int _ _) (.cons (.str _ b2) (.cons r3 (.cons (.str _ b4) (.cons r5 .nil)))))⟩
theorem open_nds (hO : ∀ b, ¬ O b) {m : Nat} {cs : List Value} {y : DataW H × List MemPlace} (h : DataW.trod enc Try.prog w base spare held m 22 cs = some y) (hs : Small 22 y.1) : ∃ (v : Value) (l : List Nd), cs = [v] ∧ LeafR w O I v (.row .node l) :=
  open_row (t := .node) Try.underlying22 cells_nd (Nat.le_of_ble_eq_true (by kernel_rfl)) hO h hs fun n c z _ _ hz hsz => open_nd hO n hz hsz
theorem open_eds (hO : ∀ b, ¬ O b) {m : Nat} {cs : List Value} {y : DataW H × List MemPlace} (h : DataW.trod enc Try.prog w base spare held m 23 cs = some y) (hs : Small 23 y.1) : ∃ (v : Value) (l : List Ed), cs = [v] ∧ LeafR w O I v (.row .edit l) :=
  open_row (t := .edit) Try.underlying23 cells_ed (Nat.le_of_ble_eq_true (by kernel_rfl)) hO h hs fun n c z _ hl hz hsz => by
    obtain ⟨_, z0, _, g0, s0⟩ := field_of Try.underlying60 hz hsz 0 _ rfl
    obtain ⟨_, z1, _, g1, s1⟩ := field_of Try.underlying60 hz hsz 1 _ rfl
    obtain ⟨_, z2, _, g2, s2⟩ := field_of Try.underlying60 hz hsz 2 _ rfl
    obtain ⟨_, z3, _, g3, s3⟩ := field_of Try.underlying60 hz hsz 3 _ rfl
    obtain ⟨x0, e0⟩ := open_int1 g0
    obtain ⟨v1, x1, e1, r1⟩ := open_ints (I := I) hO g1 s1
    obtain ⟨x2, r2⟩ := open_nd (I := I) hO _ g2 s2
    obtain ⟨x3, r3⟩ := open_nd (I := I) hO _ g3 s3
    match c, hl with
    | [c0, c1, c2, c3, c4, c5, c6, c7, c8, c9, c10, c11, c12, c13], _ =>
      simp [cells_int, cells_ints] at e0 e1
      subst e0 e1
      simp [cells_nd] at r2 r3
      refine ⟨⟨x0, x1, x2, x3⟩, .cons (.int _ _) (.cons r1 ?_)⟩
      exact r2.append r3
end
/-- A slice that came in. -/
theorem opened {H : Type} {enc : TypeId × Value → H} {w : World} {spare : Nat → Bool} {held : Bool} {t : TypeId} {v : Value} {d : DataW H} {p : List MemPlace} (h : DataW.Trod enc Try.prog w 0 spare held t v d p) : ∃ m, DataW.trod enc Try.prog w 0 spare held m t v.cells.toList = some (d, p) := h
end Go.Proofs.Ytmkjjopflncedaa.AX
end
