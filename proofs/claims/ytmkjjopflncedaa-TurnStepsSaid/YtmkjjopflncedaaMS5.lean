/- What the code of this statement does, over values that stand for data: an executor of the model's code, that it is sound, and contracts of functions: part 5. No condition is added to the statement. -/
import Derived.Test.YtmkjjopflncedaaMS4
import Derived.Lib.AppendZerosOnto
import Derived.Lib.Walk
import Derived.Below
import Derived.ChangeArms
import Derived.SizedLaws
set_option linter.unusedVariables false
set_option linter.unusedSimpArgs false
section
namespace Go.Proofs.Ytmkjjopflncedaa.AX
open Go Go.Shelf Go.RowKit Go.Lib
set_option linter.unusedVariables false
set_option linter.unusedSimpArgs false
theorem edinfo : ∃ i z, Try.prog.info? 60 = some i ∧ i.size = 14 ∧ i.zero = some z ∧ z.cells.size = 14 ∧ i.bytes = 224 := by
  obtain ⟨_, i, z, h1, h2, h3, h4, _⟩ := ty_ok (e := 60) (t := .edit) (by kernel_rfl)
  have hb : bytesT Try.prog 60 = some 224 := by kernel_rfl
  unfold bytesT at hb
  rw [h1] at hb
  exact ⟨i, z, h1, h2, h3, h4, by injection hb⟩
def GrowPost (w : World) (e : Ending) (w' : World) : Prop := ∃ G cur, e = .returned (.slice (some ⟨w.heap.size, 0, none⟩) 0 G) ∧ G ≤ maxLen ∧ cur.size = G * 14 ∧ w' = w.drew.alloc (.cells cur 60)
set_option maxHeartbeats 8000000 in
set_option maxRecDepth 1000000 in
theorem grow_pos (n : Nat) (w : World) (h0 : 0 < n) (hbig : n * 224 ≤ 140737488355328) :
    Calls Try.prog 71 #[.slice none 0 0, .int .i64 n] w (GrowPost w) := by
  have mixed : Try.prog.follows Departure.mixedOrders = true := by kernel_rfl
  obtain ⟨inf, z, hinf, hsz, hz, hzs, hby⟩ := edinfo
  have h1 : ¬ ((n : Int) < 0) := by omega
  have h4 : (n : Int) > 0 := by omega
  have hrz : ∀ ty, (Builtin.append_ #[23, 3] ty #[.slice none 0 0, .int .i64 (n : Int)]).run Try.prog w =
      .ok (.slice (some ⟨w.heap.size, 0, none⟩) n (grownCap w n 0 60)) (w.drew.alloc (.cells (#[] ++ Builtin.zeroCells z.cells n ++ Builtin.zeroCells z.cells (grownCap w n 0 60 - n)) 60)) := fun ty => by
    have h := Lib.run_append_grow_zeros w 23 3 ty 60 inf z .i64 .i64 Try.underlying23 Try.underlying3 hinf hz none 0 0 [] (run_firstCells_none w.drew inf.size 0 0 0) n h0 (by omega) (by omega) (by omega) (by rw [hby]; omega)
      (by rw [Nat.zero_add]; exact growslice_fits (by omega) (by rw [hby]; exact hbig))
    rw [Nat.zero_add] at h
    exact h
  have hGn : n ≤ grownCap w n 0 60 := grownCap_ge w _ _ _
  have hG63 := grownCap_le_maxLen w n 0 60 (by unfold maxLen; omega)
  obtain ⟨G, hG⟩ : ∃ G, G = grownCap w n 0 60 := ⟨_, rfl⟩
  rw [← hG] at hrz hGn hG63
  obtain ⟨cur, hcur⟩ : ∃ cur, cur = #[] ++ Builtin.zeroCells z.cells n ++ Builtin.zeroCells z.cells (G - n) := ⟨_, rfl⟩
  rw [← hcur] at hrz
  have hcs : Hid (cur.size = G * 14) := by
    show cur.size = _
    rw [hcur]
    simp only [Array.size_append, Builtin.zeroCells, Array.size_map, Array.size_range, hzs]
    simp
    omega
  have hGm : Hid (G ≤ maxLen) := hG63
  have hG9 : G ≤ 9223372036854775807 := by unfold maxLen at hG63; omega
  clear hcur hG hG63
  go_enter Try.func71, Try.ntmps71
  go_wp2_with (at_builtin; refine Lib.wpList_append_run _ rfl _ _ _ _ rfl _ _ rfl rfl _ _ (hrz _) ?_)
  all_goals (go_ret; exact ⟨G, cur, rfl, hGm.out, hcs.out, rfl⟩)
set_option maxHeartbeats 8000000 in
set_option maxRecDepth 1000000 in
theorem grow_zero (w : World) : Calls Try.prog 71 #[.slice none 0 0, .int .i64 (0 : Nat)] w fun e w' => e = .returned (.slice none 0 0) ∧ w' = w := by
  have mixed : Try.prog.follows Departure.mixedOrders = true := by kernel_rfl
  go_enter Try.func71, Try.ntmps71
  go_wp2
  go_ret
  exact ⟨rfl, rfl⟩
def conGrow : Con := fun args hp => match args, hp with
  | [.nil, .int .i64 n], [] => some { pre := some (0 ≤ n ∧ n * 224 ≤ (maxSl : Int)), res := .own 0 1, extra := [.rowb 1 .edit []] }
  | _, _ => none
theorem grow_holds : Holds 71 conGrow := by
  intro args hp ans hc
  unfold conGrow at hc
  split at hc
  case h_2 => cases hc
  rename_i n
  injection hc with hc
  subst hc
  intro F I w vals hH hv hpre
  obtain ⟨p1, p2⟩ := hpre _ rfl
  obtain ⟨m, rfl⟩ : ∃ m : Nat, n = m := ⟨n.toNat, by omega⟩
  cases hv with | cons a0 t => cases t with | cons a1 t => cases t with | nil =>
  have e0 := (show ValR w (Own F I) I _ .nil from a0).nil
  have e1 := (show ValR w (Own F I) I _ (.int .i64 m) from a1).int
  subst e0; subst e1
  obtain ⟨I1, g1, g2, g3, g4⟩ := want_new hH .edit
  have hR := HRel.toRel g1
  obtain ⟨l0, hl0, v0, vs, rfl, _, hown, _⟩ := g1.hp 0
  have hv0 : v0 = .slice none 0 0 := by
    have := (ValR.own (w := w) (show ValR w (Own F I1) I1 (.slice none 0 0) (.own 0 0) from g3)).2.2 _ _ _ hl0
    exact (this.2 rfl).symm
  subst hv0
  have fin : ∀ (v' : Value) (w' : World), w'.ownsRow 0 (cx0.tid .edit) (width .edit) v' 0 [] → w.grownBy w' none → (∀ k, v'.ownBlock = some k → w.heap.size ≤ k) → ∃ v I', Ending.returned v' = .returned v ∧ ValR w' (Own F I') I' v (.own 0 1) ∧ HRel cx0.tid F I' (([] ++ [Blk.rowb 1 .edit []] : List Blk).map some) w' ∧ (∀ p, (none : Option Prop) = some p → p) ∧
      (∀ i, i < 0 → (∀ b, I i = some (.box b) → I' i = some (.box b)) ∧ (∀ b v, I i = some (.bld b v) → ∃ v', I' i = some (.bld b v')) ∧ (∀ n t v, I i = some (.row n t v) → ∃ n' t' v', I' i = some (.row n' t' v') ∧ (hasN ([] : List Nat) i = true → n' = 0 ∧ t' = t ∧ (n = 0 → v' = v)))) ∧
      (∀ i l b, I' i = some l → l.has b → (∃ j l0, I j = some l0 ∧ l0.has b) ∨ w.heap.size ≤ b) ∧
      w'.os = w.os ∧ w'.tape = w.tape ∧ w'.output = w.output ∧ w.heap.size ≤ w'.heap.size ∧ (∀ b, b < w.heap.size → (∀ i l, I i = some l → ¬ l.has b) → w'.heap[b]? = w.heap[b]?) := by
    intro v' w' q1 q2 q3
    obtain ⟨r1, r2⟩ := hR.renew (id := 0) (m := 0) (t := .edit) (v := .slice none 0 0) (v' := v') (xs := []) (ys := []) (us := []) rfl hl0 q1 q2 (fun k hk => .inr (q3 k hk)) (Nat.zero_le _) .nil
    refine ⟨v', _, rfl, r2, r1.toH, fun p h => (nomatch h), fun i hi => absurd hi (Nat.not_lt_zero _), fun i l b h1 h2 => ?_, q2.os, q2.tape, q2.output, q2.size, fun b hb _ => q2.block b hb (fun h => nomatch h)⟩
    rcases (r1.place i l b h1 h2).1 with ⟨j, l1, h3, h4⟩ | h3
    · exact .inl (g2.back j l1 b h3 h4)
    · exact .inr h3
  rcases Nat.eq_zero_or_pos m with h0 | h0
  · subst h0
    refine (grow_zero w).mono ?_
    rintro e w' ⟨rfl, rfl⟩
    exact fin _ _ ⟨rfl, .inl ⟨rfl, rfl⟩⟩ ⟨rfl, rfl, rfl, Nat.le_refl _, fun _ _ _ => rfl⟩ (fun k hk => by cases hk)
  · refine (grow_pos m w h0 (by unfold maxSl at p2; omega)).mono ?_
    rintro e w' ⟨G, cur, rfl, k1, k2, rfl⟩
    refine fin _ _ ⟨rfl, .inr ⟨w.heap.size, G, cur, rfl, Nat.zero_le _, ?_, Nat.zero_le _, k1, k2, by simp⟩⟩ ⟨rfl, rfl, rfl, ?_, fun k hk _ => Below.heap_alloc _ _ _ hk⟩ (fun k hk => ?_)
    · exact Array.getElem?_push_size (xs := w.heap)
    · show w.heap.size ≤ (w.drew.heap.push _).size
      rw [Array.size_push]; exact Nat.le_succ _
    · cases hk; exact Nat.le_refl _
end Go.Proofs.Ytmkjjopflncedaa.AX
end
section
namespace Go.Proofs.Ytmkjjopflncedaa.AXP
open Go Go.Proofs.Ytmkjjopflncedaa.AX
def totL : List (List Ed) → Nat
  | [] => 0
  | x :: l => x.length + totL l
def catL (l : List (List Ed)) : List Ed := l.flatten
end Go.Proofs.Ytmkjjopflncedaa.AXP
namespace Go.Proofs.Ytmkjjopflncedaa.AX
open Go AXP
noncomputable def cxCat : Cx := cxT (tabLook [(71, conGrow)])
def lsCat1 : LS where
  keep := [(0, .as), (3, .as), (9, .as), (10, .as), (11, .as)]
  left := [(0, .as), (3, .as)]
  sum := fun vs bs K => match vs, bs with
    | [.row .edits ss, .int .i64 sz, .row .edits s2, .int .i64 m, .int .i64 i], [] => Rq (m = s2.length ∧ i = 0 ∧ sz = 0 ∧ s2.length ≤ maxSl ∧ totL s2 ≤ maxSl) (K (.exit 0) [.row .edits ss, .int .i64 (totL s2)] [])
    | _, _ => False
def lsCat2 : LS where
  keep := [(6, .own .edit), (25, .as), (26, .as), (27, .as)]
  left := [(6, .own .edit)]
  sum := fun vs bs K => match vs, bs with
    | [.own 0 0, .row .edits ss, .int .i64 m, .int .i64 i], [.rowb 0 .edit l] => Rq (m = ss.length ∧ i = 0 ∧ l.length = 0 ∧ ss.length ≤ maxSl ∧ totL ss * 224 ≤ maxSl) (K (.exit 2) [.own 0 0] [.rowb 0 .edit (catL ss)])
    | _, _ => False
def conCat : Con := conP [.row .edits] fun (ss : List (List Ed)) => { pre := some (ss.length ≤ 1000 ∧ totL ss * 224 ≤ maxSl), res := .own 0 0, extra := [.rowb 0 .edit (catL ss)] }
noncomputable def cxJoin : Cx := cxT (tabLook [(48, conCat), (25, conShort)])
def conJoin : Con := conP [.row .edit, .row .edit] fun (s t : List Ed) => { pre := some (wtEds s + wtEds t ≤ wtMx), res := .own 0 0, extra := [.rowb 0 .edit (shortS (s ++ t))] }
noncomputable def cxNothing : Cx := cxT (tabLook [(14, conLo 50), (21, conAbout), (24, conJoin), (15, conNone22)])
end Go.Proofs.Ytmkjjopflncedaa.AX
end
section
namespace Go.Proofs.Ytmkjjopflncedaa.AX
open Go AXP
set_option maxRecDepth 100000
theorem vcCatB1 (ss s2 : List (List Ed)) (sz m i : Int) (K : Ex → List AV → List Blk → Prop) : (bodyA cxCat (LL Try.f48 [lsCat1, lsCat2]) Try.f48.ntmps (loopAt Try.f48 0).1 (loopAt Try.f48 0).2 lsCat1.keep lsCat1.left K [.row .edits ss, .int .i64 sz, .row .edits s2, .int .i64 m, .int .i64 i] []) = (
Br (decide (i < m))
  (Rq ((0 : Int) ≤ i ∧ i < (↑s2.length : Int))
    (Gv (List.length (rd Ty.edits s2 i) ≤ maxSl)
      (Br (decide (IntKind.i64.wrap (sz + (↑(List.length (rd Ty.edits s2 i)) : Int)) < (0 : Int))) False
        (K Ex.norm
          [AV.row Ty.edits ss, AV.int IntKind.i64 (IntKind.i64.wrap (sz + (↑(List.length (rd Ty.edits s2 i)) : Int))),
            AV.row Ty.edits s2, AV.int IntKind.i64 m, AV.int IntKind.i64 (IntKind.i64.wrap (i + (1 : Int)))]
          []))))
  (K (Ex.exit (0 : Nat)) [AV.row Ty.edits ss, AV.int IntKind.i64 sz] [])) := by kernel_rfl
theorem vcCatB2 (ss : List (List Ed)) (l : List Ed) (m i : Int) (K : Ex → List AV → List Blk → Prop) : (bodyA cxCat (LL Try.f48 [lsCat1, lsCat2]) Try.f48.ntmps (loopAt Try.f48 1).1 (loopAt Try.f48 1).2 lsCat2.keep lsCat2.left K [.own 0 0, .row .edits ss, .int .i64 m, .int .i64 i] [.rowb 0 .edit l]) = (
Br (decide (i < m))
  (Rq ((0 : Int) ≤ i ∧ i < (↑ss.length : Int))
    (Rq ((l.length + List.length (rd Ty.edits ss i)) * (224 : Nat) ≤ maxSl)
      (K Ex.norm
        [AV.own (0 : Nat) (0 : Nat), AV.row Ty.edits ss, AV.int IntKind.i64 m,
          AV.int IntKind.i64 (IntKind.i64.wrap (i + (1 : Int)))]
        [Blk.rowb (0 : Nat) Ty.edit (l ++ rd Ty.edits ss i)])))
  (K (Ex.exit (2 : Nat)) [AV.own (0 : Nat) (0 : Nat)] [Blk.rowb (0 : Nat) Ty.edit l])) := by kernel_rfl
theorem vcCatF (ss : List (List Ed)) (Q : List AV → List Blk → List Blk → Prop) : (funA cxCat (LL Try.f48 [lsCat1, lsCat2]) Try.f48 [.row .edits ss] [] [] Q) = (
Gv (ss.length ≤ maxSl)
  (Rq
    ((↑ss.length : Int) = (↑ss.length : Int) ∧
      (0 : Int) = (0 : Int) ∧ (0 : Int) = (0 : Int) ∧ ss.length ≤ maxSl ∧ totL ss ≤ maxSl)
    (Rq ((0 : Int) ≤ (↑(totL ss) : Int) ∧ (↑(totL ss) : Int) * (224 : Int) ≤ (↑maxSl : Int))
      (Gv (ss.length ≤ maxSl)
        (Rq
          ((↑ss.length : Int) = (↑ss.length : Int) ∧
            (0 : Int) = (0 : Int) ∧ (0 : Nat) = (0 : Nat) ∧ ss.length ≤ maxSl ∧ totL ss * (224 : Nat) ≤ maxSl)
          (Q [AV.own (0 : Nat) (0 : Nat)] [] [Blk.rowb (0 : Nat) Ty.edit (catL ss)])))))) := by kernel_rfl
theorem vcJoinF (s t : List Ed) (Q : List AV → List Blk → List Blk → Prop) : (funA cxJoin (LL Try.f24 []) Try.f24 [.row .edit s, .row .edit t] [] [] Q) = (
Rq ([s, t].length ≤ (1000 : Nat) ∧ totL [s, t] * (224 : Nat) ≤ maxSl)
  (Rq (wtEds (catL [s, t]) ≤ wtMx)
    (Q [AV.own (0 : Nat) (0 : Nat)] [] [Blk.rowb (0 : Nat) Ty.edit (shortS (catL [s, t]))]))) := by kernel_rfl
theorem vcNothingF (s : List Ed) (Q : List AV → List Blk → List Blk → Prop) : (funA cxNothing (LL Try.f7 []) Try.f7 [.row .edit s] [] [] Q) = (
Br (longB (50 : Int) s) (Q [AV.bool true] [] [])
  (Rq (wtEds s ≤ wtMx)
    (Rq (wtEds s + wtEds (aboutS s) ≤ wtMx)
      (Br ((↑(shortS (s ++ aboutS s)).length : Int) == (0 : Int))
        (Gv ((shortS (s ++ aboutS s)).length ≤ maxSl) (Q [AV.bool true] [] []))
        (Gv ((shortS (s ++ aboutS s)).length ≤ maxSl) (Q [AV.bool false] [] [])))))) := by kernel_rfl
end Go.Proofs.Ytmkjjopflncedaa.AX
end
section
namespace Go.Proofs.Ytmkjjopflncedaa.AXP
open Go Go.Proofs.Ytmkjjopflncedaa.AX
theorem cancel_iff (x y : Ed) : cancelB x y = true ↔ y = turnEd x := by unfold cancelB; rw [eqEd_iff]; exact eq_comm
/-- What cancels at the head is taken away. -/
def pushR (x : Ed) : List Ed → List Ed
  | y :: t => if cancelB x y = true then t else x :: y :: t
  | [] => [x]
theorem push_cons (x y : Ed) (t : List Ed) : pushR x (y :: t) = if cancelB x y = true then t else x :: y :: t := rfl
def actR (l t : List Ed) : List Ed := l.foldr pushR t
def Redd (l : List Ed) : Prop := firstN cancelB l = none
theorem redd_nil : Redd [] := rfl
theorem redd_tail {x : Ed} {l : List Ed} (h : Redd (x :: l)) : Redd l := by
  unfold Redd at *
  cases l with
  | nil => rfl
  | cons y l =>
    rw [firstN] at h
    split at h
    · cases h
    · simpa using h
theorem redd_head {x y : Ed} {l : List Ed} (h : Redd (x :: y :: l)) : cancelB x y = false := by
  unfold Redd at h
  rw [firstN] at h
  split at h
  · cases h
  · rename_i h'; simpa using h'
theorem redd_cons {x y : Ed} {l : List Ed} (h : cancelB x y = false) (h' : Redd (y :: l)) : Redd (x :: y :: l) := by
  unfold Redd at *
  rw [firstN, if_neg (by rw [h]; decide), h']; rfl
theorem push_redd (x : Ed) {t : List Ed} (h : Redd t) : Redd (pushR x t) := by
  cases t with
  | nil => rfl
  | cons y t =>
    rw [push_cons]
    split
    · exact redd_tail h
    · rename_i h'; exact redd_cons (by simpa using h') h
theorem act_redd : ∀ (l : List Ed) {t : List Ed}, Redd t → Redd (actR l t)
  | [], _, h => h
  | x :: l, _, h => push_redd x (act_redd l h)
theorem push_push (x : Ed) {t : List Ed} (h : Redd t) : pushR x (pushR (turnEd x) t) = t := by
  have hx : cancelB x (turnEd x) = true := (cancel_iff _ _).2 rfl
  cases t with
  | nil => simp only [pushR, hx, if_true]
  | cons y t =>
    by_cases hc : cancelB (turnEd x) y = true
    · have hy := (cancel_iff _ _).1 hc
      rw [turn_turn] at hy
      subst hy
      simp only [pushR, hc, if_true]
      cases t with
      | nil => rfl
      | cons z t =>
        show (if cancelB y z = true then t else y :: z :: t) = _
        rw [if_neg (by rw [redd_head h]; decide)]
    · simp only [pushR, hc, Bool.false_eq_true, if_false, hx, if_true]
theorem act_app (a b t : List Ed) : actR (a ++ b) t = actR a (actR b t) := List.foldr_append ..
theorem act_about : ∀ (s : List Ed) {t : List Ed}, Redd t → actR (s ++ aboutS s) t = t
  | [], _, _ => rfl
  | x :: s, t, h => by
    rw [about_cons, ← List.append_assoc]
    show pushR x (actR (s ++ aboutS s ++ [turnEd x]) t) = t
    rw [act_app]
    show pushR x (actR (s ++ aboutS s) (pushR (turnEd x) t)) = t
    rw [act_about s (push_redd _ h), push_push x h]
theorem act_self : ∀ {l : List Ed}, Redd l → actR l [] = l
  | [], _ => rfl
  | x :: l, h => by
    show pushR x (actR l []) = _
    rw [act_self (redd_tail h)]
    cases l with
    | nil => rfl
    | cons y l => rw [push_cons, if_neg (by rw [redd_head h]; decide)]
theorem act_del {l : List Ed} {i : Nat} (h : firstN cancelB l = some i) : actR (delTwo l i) [] = actR l [] := by
  obtain ⟨h1, h2⟩ := firstN_sat h
  have hl := list_two h1
  have hy := (cancel_iff _ _).1 h2
  have e : actR l [] = actR (l.take i ++ l[i] :: l[i + 1] :: l.drop (i + 2)) [] := by rw [← hl]
  rw [e, hy]
  unfold delTwo
  rw [act_app, act_app]
  show _ = actR (l.take i) (pushR l[i] (pushR (turnEd l[i]) (actR (l.drop (i + 2)) [])))
  rw [push_push _ (act_redd _ redd_nil)]
theorem short_nil : ∀ (n : Nat) (l : List Ed), l.length ≤ n → actR l [] = [] → shortS l = []
  | 0, l, h, _ => by
    have : l = [] := List.eq_nil_of_length_eq_zero (by omega)
    subst this
    exact shortS_done rfl rfl
  | n + 1, l, h, ha => by
    cases h1 : firstN cancelB l with
    | some i =>
      have := firstN_lt h1
      rw [shortS_del h1]
      refine short_nil n _ ?_ (by rw [act_del h1]; exact ha)
      unfold delTwo; simp only [List.length_append, List.length_take, List.length_drop]; omega
    | none =>
      rw [act_self h1] at ha
      subst ha
      exact shortS_done rfl rfl
theorem short_about (s : List Ed) : shortS (s ++ aboutS s) = [] := short_nil _ _ (Nat.le_refl _) (act_about s redd_nil)
theorem totL_app : ∀ (a b : List (List Ed)), totL (a ++ b) = totL a + totL b
  | [], b => by simp [totL]
  | x :: a, b => by rw [List.cons_append, totL, totL, totL_app a b]; omega
theorem totL_cat : ∀ (a : List (List Ed)), (catL a).length = totL a
  | [] => rfl
  | x :: a => by
    have := totL_cat a
    unfold catL at *
    rw [List.flatten_cons, List.length_append, totL, this]
theorem catL_snoc (a : List (List Ed)) (x : List Ed) : catL (a ++ [x]) = catL a ++ x := by unfold catL; rw [List.flatten_append]; simp
end Go.Proofs.Ytmkjjopflncedaa.AXP
namespace Go.Proofs.Ytmkjjopflncedaa.AX
open Go AXP
set_option maxRecDepth 100000
theorem rd_eds {a : List (List Ed)} {i : Nat} (h : i < a.length) : rd .edits a (i : Int) = a[i] := rd_get (t := .edits) h
theorem totL_take {ss : List (List Ed)} {i : Nat} (h : i < ss.length) : totL (ss.take (i + 1)) = totL (ss.take i) + ss[i].length ∧ totL (ss.take (i + 1)) ≤ totL ss := by
  have h1 : totL (ss.take (i + 1)) = totL (ss.take i) + ss[i].length := by rw [← List.take_append_getElem h, totL_app]; rfl
  have h2 : totL (ss.take (i + 1)) + totL (ss.drop (i + 1)) = totL ss := by rw [← totL_app, List.take_append_drop]
  exact ⟨h1, by omega⟩
theorem cat_sum1 : SumOK cxCat (LL Try.f48 [lsCat1, lsCat2]) Try.f48.ntmps (loopAt Try.f48 0).1 (loopAt Try.f48 0).2 lsCat1 := by
  intro vs bs K hs
  unfold lsCat1 at hs
  simp only at hs
  split at hs
  case h_2 => exact hs.elim
  rename_i ss sz s2 m i
  obtain ⟨⟨rfl, rfl, rfl, hl, ht⟩, h⟩ := hs
  refine sum_for (fun _ => True) (fun i => [.row .edits ss, .int .i64 (totL (s2.take i)), .row .edits s2, .int .i64 s2.length, .int .i64 i]) (fun _ => []) s2.length (fun i hi _ R hR => ?_) (fun _ R => ?_) trivial
  · refine Eq.mpr (vcCatB1 ss s2 _ s2.length i _) ⟨fun _ => ⟨⟨by omega, by omega⟩, ?_⟩, fun h => lt_of h hi⟩
    obtain ⟨t1, t2⟩ := totL_take hi
    rw [rd_eds hi]
    have hw : IntKind.i64.wrap ((totL (s2.take i) : Int) + (s2[i].length : Int)) = (totL (s2.take (i + 1)) : Int) := by unfold maxSl at ht; rw [wrap_id'] <;> omega
    refine ⟨fun _ => ⟨fun h1 => ?_, fun _ => ?_⟩⟩
    · have h1 := of_decide_eq_true h1
      have hw' : IntKind.i64.wrap ((totL (s2.take i) : Int) + (List.length s2[i] : Int)) = (totL (s2.take (i + 1)) : Int) := hw
      omega
    · have := hR trivial
      rw [← hw, ← wrap_succ hi hl] at this
      exact this
  · refine Eq.mpr (vcCatB1 ss s2 _ s2.length s2.length _) ⟨fun h => not_lt_self h, fun _ => ?_⟩
    rw [List.take_length]; exact h
theorem cat_sum2 : SumOK cxCat (LL Try.f48 [lsCat1, lsCat2]) Try.f48.ntmps (loopAt Try.f48 1).1 (loopAt Try.f48 1).2 lsCat2 := by
  intro vs bs K hs
  unfold lsCat2 at hs
  simp only at hs
  split at hs
  case h_2 => exact hs.elim
  rename_i ss m i l
  obtain ⟨⟨rfl, rfl, hl0, hl, ht⟩, h⟩ := hs
  have hl0 := List.eq_nil_of_length_eq_zero hl0
  subst hl0
  refine sum_for (fun _ => True) (fun i => [.own 0 0, .row .edits ss, .int .i64 ss.length, .int .i64 i]) (fun i => [.rowb 0 .edit (catL (ss.take i))]) ss.length (fun i hi _ R hR => ?_) (fun _ R => ?_) trivial
  · refine Eq.mpr (vcCatB2 ss _ ss.length i _) ⟨fun _ => ⟨⟨by omega, by omega⟩, ?_⟩, fun h => lt_of h hi⟩
    obtain ⟨t1, t2⟩ := totL_take hi
    rw [rd_eds hi]
    refine ⟨?_, ?_⟩
    · have e : (catL (ss.take i)).length + List.length ss[i] = totL (ss.take (i + 1)) := by rw [totL_cat, t1]
      rw [e]; exact Nat.le_trans (Nat.mul_le_mul_right _ t2) ht
    · have := hR trivial
      rw [← List.take_append_getElem hi, catL_snoc, ← wrap_succ hi hl] at this
      exact this
  · refine Eq.mpr (vcCatB2 ss _ ss.length ss.length _) ⟨fun h => not_lt_self h, fun _ => ?_⟩
    rw [List.take_length]; exact h
theorem cat_holds : Holds 48 conCat := conP_holds fun ss => by
  refine fun_meets2 (AllH.tok (.cons grow_holds (by kernel_rfl) .nil)) [] lsCat1 lsCat2 (by kernel_rfl) (by kernel_rfl) cat_sum1 cat_sum2 fun hpre => Eq.mpr (vcCatF ss _) ?_
  obtain ⟨p1, p2⟩ := hpre _ rfl
  exact ⟨fun hm => ⟨⟨rfl, rfl, rfl, hm, by omega⟩, ⟨⟨by omega, by omega⟩, ⟨fun _ => ⟨⟨rfl, rfl, rfl, hm, p2⟩, qfin rfl rfl rfl rfl⟩⟩⟩⟩⟩
theorem join_holds : Holds 24 conJoin := conP_holds fun s t => by
  refine fun_meets0 (AllH.tok (.cons cat_holds (by kernel_rfl) (.cons short_holds (by kernel_rfl) .nil))) [] (by kernel_rfl) (by kernel_rfl) fun hpre => Eq.mpr (vcJoinF s t _) ?_
  have hw : wtEds s + wtEds t ≤ wtMx := hpre _ rfl
  have e : catL [s, t] = s ++ t := by unfold catL; simp
  rw [e]
  have h1 := wtEds_len s
  have h2 := wtEds_len t
  refine ⟨⟨by simp, ?_⟩, ⟨by rw [wtEds_app]; exact hw, qfin rfl rfl rfl rfl⟩⟩
  simp only [totL]
  unfold wtMx at hw; unfold maxSl; omega
def conNothing : Con := conP [.row .edit] fun (_ : List Ed) => { res := .bool true }
theorem nothing_holds : Holds 7 conNothing := conP_holds fun s => by
  refine fun_meets0 (AllH.tok (.cons lo22_holds (by kernel_rfl) (.cons about_holds (by kernel_rfl) (.cons join_holds (by kernel_rfl) (.cons none22_holds (by kernel_rfl) .nil))))) [] (by kernel_rfl) (by kernel_rfl) fun hpre => Eq.mpr (vcNothingF s _) ?_
  refine ⟨fun _ => qfin rfl rfl rfl rfl, fun h => ?_⟩
  have hw := (long_wt (by decide) h).1
  refine ⟨by unfold wtMx; omega, ⟨by rw [wt_about]; unfold wtMx; omega, ⟨fun _ => ⟨fun _ => qfin rfl rfl rfl rfl⟩, fun h1 => ?_⟩⟩⟩
  rw [short_about] at h1; simp at h1
end Go.Proofs.Ytmkjjopflncedaa.AX
end
section
namespace Go.Proofs.Ytmkjjopflncedaa.AXP
open Go Go.Proofs.Ytmkjjopflncedaa.AX
def told1 (z : Nd) (x : Ed) : Bool := if (x.what == 1) = true then eqNd x.old z else if (x.what == 2) = true then eqNd x.new z else true
def toldB (z : Nd) (s : List Ed) : Bool := s.all (told1 z)
def zeroN : Nd := ⟨0, 0, ⟨#[]⟩, [], ⟨#[]⟩, []⟩
def toldS (s : List Ed) : Bool := toldB zeroN s
end Go.Proofs.Ytmkjjopflncedaa.AXP
namespace Go.Proofs.Ytmkjjopflncedaa.AX
open Go AXP
noncomputable def cxTold : Cx := cxT (tabLook [(38, conNode')])
def lsTold : LS where
  keep := [(3, .as), (7, .as), (8, .as), (9, .as)]
  left := [(2, .as)]
  sum := fun vs bs K => match vs, bs with
    | [.ptr 0 0, .row .edit s, .int .i64 m, .int .i64 i], [.box [.int .i64 c0, .int .i64 c1, .str c2, .nil, .str c4, .nil]] => Rq (m = s.length ∧ i = 0 ∧ s.length ≤ maxSl) (Br (toldB ⟨c0, c1, c2, [], c4, []⟩ s) (K (.exit 0) [.any] []) (K .ret [.bool false] []))
    | _, _ => False
def conTold : Con := conP [.row .edit] fun (s : List Ed) => { res := .bool (toldS s) }
noncomputable def cxShortL : Cx := cxC (tabLook [(13, conLg), (14, conLo 50), (23, conTold), (24, conJoin), (25, conShort), (22, conEdSame), (20, conApply), (19, conNodes), (15, conNone22)]) (coldAt 3 [7])
end Go.Proofs.Ytmkjjopflncedaa.AX
end
section
namespace Go.Proofs.Ytmkjjopflncedaa.AX
open Go AXP
set_option maxRecDepth 100000
theorem vcToldB (s : List Ed) (m i c0 c1 : Int) (c2 c4 : ByteArray) (K : Ex → List AV → List Blk → Prop) : (bodyA cxTold (LL Try.f23 [lsTold]) Try.f23.ntmps (loopAt Try.f23 0).1 (loopAt Try.f23 0).2 lsTold.keep lsTold.left K [.ptr 0 0, .row .edit s, .int .i64 m, .int .i64 i] [.box [.int .i64 c0, .int .i64 c1, .str c2, .nil, .str c4, .nil]]) = (
Br (decide (i < m))
  (Rq ((0 : Int) ≤ i ∧ i < (↑s.length : Int))
    (Br ((rd Ty.edit s i).1 == (1 : Int))
      (Br
        (!eqNd
            (Nd.mk (rd Ty.edit s i).old.1 (rd Ty.edit s i).old.2 (rd Ty.edit s i).old.3 (rd Ty.edit s i).old.4
              (rd Ty.edit s i).old.5 (rd Ty.edit s i).old.6)
            (Nd.mk c0 c1 c2 [] c4 []))
        (K Ex.ret [AV.bool false] [])
        (K Ex.norm
          [AV.ptr (0 : Nat) (0 : Nat), AV.row Ty.edit s, AV.int IntKind.i64 m,
            AV.int IntKind.i64 (IntKind.i64.wrap (i + (1 : Int)))]
          [Blk.box [AV.int IntKind.i64 c0, AV.int IntKind.i64 c1, AV.str c2, AV.nil, AV.str c4, AV.nil]]))
      (Br ((rd Ty.edit s i).1 == (2 : Int))
        (Br
          (!eqNd
              (Nd.mk (rd Ty.edit s i).new.1 (rd Ty.edit s i).new.2 (rd Ty.edit s i).new.3 (rd Ty.edit s i).new.4
                (rd Ty.edit s i).new.5 (rd Ty.edit s i).new.6)
              (Nd.mk c0 c1 c2 [] c4 []))
          (K Ex.ret [AV.bool false] [])
          (K Ex.norm
            [AV.ptr (0 : Nat) (0 : Nat), AV.row Ty.edit s, AV.int IntKind.i64 m,
              AV.int IntKind.i64 (IntKind.i64.wrap (i + (1 : Int)))]
            [Blk.box [AV.int IntKind.i64 c0, AV.int IntKind.i64 c1, AV.str c2, AV.nil, AV.str c4, AV.nil]]))
        (K Ex.norm
          [AV.ptr (0 : Nat) (0 : Nat), AV.row Ty.edit s, AV.int IntKind.i64 m,
            AV.int IntKind.i64 (IntKind.i64.wrap (i + (1 : Int)))]
          [Blk.box [AV.int IntKind.i64 c0, AV.int IntKind.i64 c1, AV.str c2, AV.nil, AV.str c4, AV.nil]]))))
  (K (Ex.exit (0 : Nat)) [AV.any] [])) := by kernel_rfl
theorem vcToldF (s : List Ed) (Q : List AV → List Blk → List Blk → Prop) : (funA cxTold (LL Try.f23 [lsTold]) Try.f23 [.row .edit s] [] [] Q) = (
Gv (s.length ≤ maxSl)
  (Rq ((↑s.length : Int) = (↑s.length : Int) ∧ (0 : Int) = (0 : Int) ∧ s.length ≤ maxSl)
    (Br (toldB (Nd.mk (0 : Int) (0 : Int) (ByteArray.mk (Array.mk [])) [] (ByteArray.mk (Array.mk [])) []) s)
      (Q [AV.bool true] [] []) (Q [AV.bool false] [] [])))) := by kernel_rfl
theorem vcShortLF (l : List Nd) (s t : List Ed) (Q : List AV → List Blk → List Blk → Prop) : (funA cxShortL (LL Try.f6 []) Try.f6 [.row .node l, .row .edit s, .row .edit t] [] [] Q) = (
Br (largeB l) (Q [AV.bool true] [] [])
  (Br (longB (50 : Int) s) (Q [AV.bool true] [] [])
    (Br (longB (50 : Int) t) (Q [AV.bool true] [] [])
      (Br (!toldS s) (Q [AV.bool true] [] [])
        (Br (!toldS t) (Q [AV.bool true] [] [])
          (Rq (wtEds s + wtEds t ≤ wtMx)
            (Br (decide ((↑(shortS (s ++ t)).length : Int) > IntKind.i64.wrap ((↑s.length : Int) + (↑t.length : Int))))
              (Gv ((shortS (s ++ t)).length ≤ maxSl)
                (Gv (s.length ≤ maxSl) (Gv (t.length ≤ maxSl) (Q [AV.bool false] [] []))))
              (Rq (wtEds (shortS (s ++ t)) ≤ wtMx)
                (Gv ((shortS (s ++ t)).length ≤ maxSl)
                  (Gv (s.length ≤ maxSl)
                    (Gv (t.length ≤ maxSl)
                      (Br (!eql eqEd (shortS (shortS (s ++ t))) (shortS (s ++ t))) (Q [AV.bool false] [] [])
                        (Rq (s.length * (224 : Nat) ≤ maxSl)
                          (Rq ((s.length + t.length) * (224 : Nat) ≤ maxSl)
                            (Rq ((2 : Nat) * (wtNds l + wtEds (s ++ t)) ≤ wtMx)
                              (Br (applyE l (s ++ t) != (0 : Int)) (Q [AV.bool true] [] [])
                                (Rq ((2 : Nat) * (wtNds l + wtEds (shortS (s ++ t))) ≤ wtMx)
                                  (Br (applyE l (shortS (s ++ t)) == (0 : Int))
                                    (Br (eql eqNd (applyL l (shortS (s ++ t))) (applyL l (s ++ t)))
                                      (Q [AV.bool true] [] []) (Q [AV.bool false] [] []))
                                    (Q [AV.bool false] [] []))))))))))))))))))) := by kernel_rfl
end Go.Proofs.Ytmkjjopflncedaa.AX
end
section
namespace Go.Proofs.Ytmkjjopflncedaa.AXP
open Go Go.Proofs.Ytmkjjopflncedaa.AX
theorem short_fin : ∀ (n : Nat) (l : List Ed), l.length ≤ n → firstN cancelB (shortS l) = none ∧ firstN meltB (shortS l) = none
  | 0, l, h => by
    have : l = [] := List.eq_nil_of_length_eq_zero (by omega)
    subst this
    rw [shortS_done rfl rfl]; exact ⟨rfl, rfl⟩
  | n + 1, l, h => by
    cases h1 : firstN cancelB l with
    | some i =>
      have := firstN_lt h1
      rw [shortS_del h1]
      refine short_fin n _ ?_
      unfold delTwo; simp only [List.length_append, List.length_take, List.length_drop]; omega
    | none =>
      cases h2 : firstN meltB l with
      | some i =>
        have := firstN_lt h2
        rw [shortS_melt h1 h2]
        refine short_fin n _ ?_
        rw [meltAt_eq this]; simp only [List.length_append, List.length_take, List.length_drop, List.length_cons, List.length_nil]; omega
      | none => rw [shortS_done h1 h2]; exact ⟨h1, h2⟩
theorem short_short (l : List Ed) : shortS (shortS l) = shortS l := by
  obtain ⟨h1, h2⟩ := short_fin _ l (Nat.le_refl _)
  exact shortS_done h1 h2
theorem at_put {l : List Nd} {way : List Int} {n : Nd} (h : atW l way = some n) (m : Nd) : atW (putW l way m) way = some m ∧ ∀ m', putW (putW l way m) way m' = putW l way m' := by
  obtain ⟨xs, hw, hs, hi, hlt, hn⟩ := at_some h
  have e : putW l way m = plugS l way.dropLast (xs.set (lastW way).toNat m) := by
    show onW _ _ _ = _
    rw [on_of (fun xs i => putAt xs i m) hs, putAt_set _ hlt]
  have hs' := steps_plug (xs.set (lastW way).toNat m) hs
  rw [← e] at hs'
  refine ⟨?_, fun m' => ?_⟩
  · have := at_of hw hs' (by rw [inB_len (l := xs) (by rw [List.length_set])]; exact hi) (by rw [List.length_set]; exact hlt)
    rw [List.getElem_set_self] at this
    exact this
  · show onW _ _ _ = onW _ _ _
    rw [on_of (fun xs i => putAt xs i m') hs', on_of (fun xs i => putAt xs i m') hs, putAt_set _ (by rw [List.length_set]; exact hlt), putAt_set _ hlt, List.set_set, e, plug_plug _ _ hs]
theorem step_put {l l' : List Nd} {x : Ed} (hx : x.what = 3 ∨ x.what = 4) : stepEd l x = .ok l' ↔ ∃ n, atW l x.way = some n ∧ okAt n x = true ∧ l' = putW l x.way (chgNd n x) := by
  have h1 : (x.what == 1) = false := by rcases hx with h | h <;> rw [h] <;> rfl
  have h2 : (x.what == 2) = false := by rcases hx with h | h <;> rw [h] <;> rfl
  have h3 : (x.what == 2 || x.what == 3 || x.what == 4) = true := by rcases hx with h | h <;> rw [h] <;> rfl
  unfold stepEd
  rw [if_neg (by rw [h1]; decide), if_pos h3]
  cases ha : atW l x.way with
  | none => exact ⟨fun h => (by cases h), fun ⟨n, h, _⟩ => (by cases h)⟩
  | some n =>
    simp only [h2, Bool.false_eq_true, if_false]
    constructor
    · intro h
      split at h
      · rename_i hok
        injection h with h
        exact ⟨n, rfl, hok, h.symm⟩
      · cases h
    · rintro ⟨n', e, hok, rfl⟩
      injection e with e
      subst e
      rw [if_pos hok]
theorem melt_spec {x y : Ed} (h : meltB x y = true) : x.what = y.what ∧ x.way = y.way ∧ (x.what = 4 ∧ x.new.text = y.old.text ∨ x.what = 3 ∧ x.new.attrs = y.old.attrs) := by
  unfold meltB at h
  split at h
  · cases h
  · rename_i h1
    simp only [Bool.or_eq_true, bne_iff_ne, ne_eq, Bool.not_eq_true', not_or, Decidable.not_not, Bool.not_eq_false] at h1
    refine ⟨h1.1, (eql_iff eqI_iff).1 h1.2, ?_⟩
    split at h
    · rename_i h2; exact .inl ⟨by simpa using h2, eqS_iff.1 h⟩
    · split at h
      · rename_i h3; exact .inr ⟨by simpa using h3, (eql_iff eqAt_iff).1 h⟩
      · cases h
theorem step_melt {l l1 l2 : List Nd} {x y : Ed} (h : meltB x y = true) (h1 : stepEd l x = .ok l1) (h2 : stepEd l1 y = .ok l2) : stepEd l { x with new := y.new } = .ok l2 := by
  obtain ⟨e1, e2, e3⟩ := melt_spec h
  have hx : x.what = 3 ∨ x.what = 4 := by rcases e3 with ⟨h, _⟩ | ⟨h, _⟩; exact .inr h; exact .inl h
  obtain ⟨n, a1, a2, rfl⟩ := (step_put hx).1 h1
  obtain ⟨n1, b1, b2, rfl⟩ := (step_put (by rw [← e1]; exact hx)).1 h2
  obtain ⟨c1, c2⟩ := at_put a1 (chgNd n x)
  rw [← e2, c1] at b1
  injection b1 with b1
  subst b1
  refine (step_put (x := { x with new := y.new }) hx).2 ⟨n, a1, a2, ?_⟩
  rw [← e2, c2]
  congr 1
  unfold chgNd
  dsimp only
  rw [← e1]
  rcases hx with h | h <;> rw [h] <;> rfl
theorem melt_apply {l m : List Nd} {s : List Ed} {i : Nat} (h : firstN meltB s = some i) (ha : applyS l s = .ok m) : applyS l (meltAt s i) = .ok m := by
  obtain ⟨h1, h2⟩ := firstN_sat h
  rw [meltAt_eq h1, List.append_assoc, applyS_app]
  have hl := list_two h1
  have e : applyS l s = applyS l (s.take i ++ s[i] :: s[i + 1] :: s.drop (i + 2)) := by rw [← hl]
  rw [e, applyS_app] at ha
  cases hq : applyS l (s.take i) with
  | error e => rw [hq] at ha; cases ha
  | ok l0 =>
    rw [hq] at ha
    simp only [applyS] at ha
    cases q1 : stepEd l0 s[i] with
    | error e => rw [q1] at ha; cases ha
    | ok l1 =>
      rw [q1] at ha
      simp only at ha
      cases q2 : stepEd l1 s[i + 1] with
      | error e => rw [q2] at ha; cases ha
      | ok l2 =>
        rw [q2] at ha
        simp only at ha
        simp only [List.cons_append, List.nil_append, applyS, step_melt h2 q1 q2]
        exact ha
theorem del_apply {l m : List Nd} {s : List Ed} {i : Nat} (h : firstN cancelB s = some i) (ha : applyS l s = .ok m) : applyS l (delTwo s i) = .ok m := by
  obtain ⟨h1, h2⟩ := firstN_sat h
  unfold delTwo
  rw [applyS_app]
  have hy := (cancel_iff _ _).1 h2
  have hl := list_two h1
  have e : applyS l s = applyS l (s.take i ++ s[i] :: s[i + 1] :: s.drop (i + 2)) := by rw [← hl]
  rw [e, hy, applyS_app] at ha
  cases hq : applyS l (s.take i) with
  | error e => rw [hq] at ha; cases ha
  | ok l0 =>
    rw [hq] at ha
    simp only [applyS] at ha
    cases q1 : stepEd l0 s[i] with
    | error e => rw [q1] at ha; cases ha
    | ok l1 =>
      rw [q1] at ha
      simp only [step_back q1] at ha
      exact ha
theorem short_apply : ∀ (n : Nat) {l m : List Nd} {s : List Ed}, s.length ≤ n → applyS l s = .ok m → applyS l (shortS s) = .ok m
  | 0, l, m, s, h, ha => by
    have : s = [] := List.eq_nil_of_length_eq_zero (by omega)
    subst this
    rw [shortS_done rfl rfl]; exact ha
  | n + 1, l, m, s, h, ha => by
    cases h1 : firstN cancelB s with
    | some i =>
      have := firstN_lt h1
      rw [shortS_del h1]
      refine short_apply n ?_ (del_apply h1 ha)
      unfold delTwo; simp only [List.length_append, List.length_take, List.length_drop]; omega
    | none =>
      cases h2 : firstN meltB s with
      | some i =>
        have := firstN_lt h2
        rw [shortS_melt h1 h2]
        refine short_apply n ?_ (melt_apply h2 ha)
        rw [meltAt_eq this]; simp only [List.length_append, List.length_take, List.length_drop, List.length_cons, List.length_nil]; omega
      | none => rw [shortS_done h1 h2]; exact ha
theorem told_take {z : Nd} {s : List Ed} {i : Nat} (h : i < s.length) : toldB z (s.take (i + 1)) = (toldB z (s.take i) && told1 z s[i]) := by
  unfold toldB; rw [← List.take_append_getElem h, List.all_append]; simp
theorem told_bad {z : Nd} {s : List Ed} {i : Nat} (h : i < s.length) (hb : told1 z s[i] = false) : toldB z s = false := by
  unfold toldB
  cases e : s.all (told1 z) with
  | false => rfl
  | true => rw [List.all_eq_true] at e; rw [e _ (List.getElem_mem h)] at hb; cases hb
end Go.Proofs.Ytmkjjopflncedaa.AXP
namespace Go.Proofs.Ytmkjjopflncedaa.AX
open Go AXP
set_option maxRecDepth 100000
theorem told_sum : SumOK cxTold (LL Try.f23 [lsTold]) Try.f23.ntmps (loopAt Try.f23 0).1 (loopAt Try.f23 0).2 lsTold := by
  intro vs bs K hs
  unfold lsTold at hs
  simp only at hs
  split at hs
  case h_2 => exact hs.elim
  rename_i s m i c0 c1 c2 c4
  obtain ⟨⟨rfl, rfl, hl⟩, h⟩ := hs
  refine sum_for (fun i => toldB ⟨c0, c1, c2, [], c4, []⟩ (s.take i) = true) (fun i => [.ptr 0 0, .row .edit s, .int .i64 s.length, .int .i64 i]) (fun _ => [.box [.int .i64 c0, .int .i64 c1, .str c2, .nil, .str c4, .nil]]) s.length (fun i hi hp R hR => ?_) (fun hp R => ?_) rfl
  · refine Eq.mpr (vcToldB s s.length i c0 c1 c2 c4 _) ⟨fun _ => ⟨⟨by omega, by omega⟩, ?_⟩, fun h => lt_of h hi⟩
    rw [rd_ed hi, wrap_succ hi hl]
    simp only [nd_eta]
    have next : told1 ⟨c0, c1, c2, [], c4, []⟩ s[i] = true → R [.ptr 0 0, .row .edit s, .int .i64 s.length, .int .i64 (i + 1 : Nat)] [.box [.int .i64 c0, .int .i64 c1, .str c2, .nil, .str c4, .nil]] := fun ht => hR (by rw [told_take hi, hp, ht]; rfl)
    refine ⟨fun h1 => ⟨fun h2 => h.no (told_bad hi ?_), fun h2 => next ?_⟩, fun h1 => ⟨fun h2 => ⟨fun h3 => h.no (told_bad hi ?_), fun h3 => next ?_⟩, fun h2 => next ?_⟩⟩ <;> unfold told1
    · rw [if_pos h1]; exact ret_false h2
    · rw [if_pos h1]; exact ret_true h2
    · rw [if_neg (by rw [h1]; decide), if_pos h2]; exact ret_false h3
    · rw [if_neg (by rw [h1]; decide), if_pos h2]; exact ret_true h3
    · rw [if_neg (by rw [h1]; decide), if_neg (by rw [h2]; decide)]
  · refine Eq.mpr (vcToldB s s.length s.length c0 c1 c2 c4 _) ⟨fun h => not_lt_self h, fun _ => h.yes ?_⟩
    rw [List.take_length] at hp; exact hp
theorem told_holds : Holds 23 conTold := conP_holds fun s => by
  refine fun_meets1 (AllH.tok (.cons node_holds (by kernel_rfl) .nil)) [] lsTold (by kernel_rfl) (by kernel_rfl) told_sum fun hpre => Eq.mpr (vcToldF s _) ?_
  refine ⟨fun hm => ⟨⟨rfl, rfl, hm⟩, ⟨fun h => qfin rfl ?_ rfl rfl, fun h => qfin rfl ?_ rfl rfl⟩⟩⟩ <;> show _ = [AV.bool (toldB zeroN s)]
  · rw [show toldB zeroN s = true from h]
  · rw [show toldB zeroN s = false from h]
def conShortL : Con := conP [.row .node, .row .edit, .row .edit] fun (_ : List Nd) (_ _ : List Ed) => { res := .bool true }
theorem shortL_holds : Holds 6 conShortL := conP_holds fun l s t => by
  refine fun_meets0C (AllH.tok (.cons lg22_holds (by kernel_rfl) (.cons lo22_holds (by kernel_rfl) (.cons told_holds (by kernel_rfl) (.cons join_holds (by kernel_rfl) (.cons short_holds (by kernel_rfl) (.cons edSame_holds (by kernel_rfl) (.cons apply_holds (by kernel_rfl) (.cons nodes_holds (by kernel_rfl) (.cons none22_holds (by kernel_rfl) .nil)))))))))) (coldAt 3 [7]) [] (by kernel_rfl) (by kernel_rfl) fun hpre => Eq.mpr (vcShortLF l s t _) ?_
  refine ⟨fun _ => qfin rfl rfl rfl rfl, fun h1 => ⟨fun _ => qfin rfl rfl rfl rfl, fun h2 => ⟨fun _ => qfin rfl rfl rfl rfl, fun h3 => ⟨fun _ => qfin rfl rfl rfl rfl, fun _ => ⟨fun _ => qfin rfl rfl rfl rfl, fun _ => ?_⟩⟩⟩⟩⟩
  have w1 := large_wt h1
  have w2 := (long_wt (by decide) h2).1
  have w3 := (long_wt (by decide) h3).1
  have hsl := short_len _ (s ++ t) (Nat.le_refl _)
  have hwt := wtEds_app s t
  have hls := wtEds_len s
  have hlt := wtEds_len t
  refine ⟨by unfold wtMx; omega, ⟨fun h => ?_, fun _ => ⟨by unfold wtMx; omega, ⟨fun _ => ⟨fun _ => ⟨fun _ => ⟨fun h => ?_, fun _ => ⟨by unfold maxSl; omega, ⟨by unfold maxSl; omega, ⟨by rw [hwt]; unfold wtMx; omega, ⟨fun _ => qfin rfl rfl rfl rfl, fun h4 => ?_⟩⟩⟩⟩⟩⟩⟩⟩⟩⟩⟩
  · have h := of_decide_eq_true h
    rw [wrap_id' (by omega) (by omega)] at h
    have := hsl.1
    rw [List.length_append] at this
    omega
  · rw [short_short, eql_self eqEd_self] at h; cases h
  · have h4 : applyE l (s ++ t) = 0 := by simpa using h4
    have h5 := applyE_zero h4
    have h6 := applyE_ok (short_apply _ (Nat.le_refl _) h5)
    refine ⟨by unfold wtMx; omega, ⟨fun _ => ⟨fun _ => qfin rfl rfl rfl rfl, fun h => ?_⟩, fun h => ?_⟩⟩
    · rw [h6.2, eql_self eqNd_self] at h; cases h
    · rw [h6.1] at h; cases h
end Go.Proofs.Ytmkjjopflncedaa.AX
end
section
namespace Go.Proofs.Ytmkjjopflncedaa.AXP
open Go Go.Proofs.Ytmkjjopflncedaa.AX
/-- Nodes with something done at a way: 0 a node is put, 1 inserted, else cut. -/
def doS : List Nd → List Int → Int → Nd → Except Int (List Nd)
  | _, [], _, _ => .error 1
  | l, i :: ws, t, n =>
    if (decide (i < 0) || decide (i > (l.length : Int)) || (i == (l.length : Int) && (decide ((ws.length : Int) + 1 > 1) || t != 1))) = true then .error 6
    else if ws.length = 0 then (if (t == 0) = true then .ok (l.take i.toNat ++ [n] ++ l.drop (i.toNat + 1)) else if (t == 1) = true then .ok (l.take i.toNat ++ [n] ++ l.drop i.toNat) else .ok (l.take i.toNat ++ l.drop (i.toNat + 1)))
    else match doS (l.getD i.toNat default).kids ws t n with
      | .error e => .error e
      | .ok k => .ok (l.take i.toNat ++ [{ l.getD i.toNat default with kids := k }] ++ l.drop (i.toNat + 1))
def doE (l : List Nd) (way : List Int) (t : Int) (n : Nd) : Int := errX (doS l way t n)
def doL (l : List Nd) (way : List Int) (t : Int) (n : Nd) : List Nd := okX (doS l way t n)
end Go.Proofs.Ytmkjjopflncedaa.AXP
namespace Go.Proofs.Ytmkjjopflncedaa.AX
open Go AXP
/-- Nodes, a node, an error. -/
def gotL (L : List Nd) (N : Nd) (e : Int) : List AV := .row .node L :: (nodeL N ++ [.int .i64 e])
noncomputable def conGAtLt (k : Nat) : Con := fun args hp => match args, hp with
  | [x, y], [] => (rowOf .node x).bind fun l => (rowOf .int y).bind fun way => some { pre := some (way.length < k), res := .agg (gotL [] (atN l way) (atErr l way)) }
  | _, _ => none
noncomputable def cxGAt (k : Nat) : Cx := cxT (tabLook [(83, conGAtLt k)])
noncomputable def conDoLt (k : Nat) : Con := fun args hp => match args, hp with
  | [x, y, .agg [.int .i64 t, n1, n2, n3, n4, n5, n6]], [] => (rowOf .node x).bind fun l => (rowOf .int y).bind fun way => (toNd [n1, n2, n3, n4, n5, n6]).bind fun n => some { pre := some (way.length < k ∧ wtNds l + wtNd n ≤ wtMx), res := .agg (gotL (doL l way t n) default (doE l way t n)) }
  | _, _ => none
/-- The slices that are read alone: behind the last append of each way through. -/
def coldDo (r : Nat) : List Nat := match hasN [15, 18, 21, 24] r with
  | true => [8]
  | false => []
noncomputable def cxDo (k : Nat) : Cx := cxC (tabLook [(82, conDoLt k)]) coldDo
end Go.Proofs.Ytmkjjopflncedaa.AX
end
section
namespace Go.Proofs.Ytmkjjopflncedaa.AX
open Go AXP
set_option maxRecDepth 100000
theorem vcGAtF (k : Nat) (l : List Nd) (way : List Int) (Q : List AV → List Blk → List Blk → Prop) : (funA (cxGAt k) (LL Try.f83 []) Try.f83 [.row .node l, .row .int way] [] [] Q) = (
Gv (way.length ≤ maxSl)
  (Br ((↑way.length : Int) == (0 : Int))
    (Q
      [AV.agg
          [AV.nil, AV.int IntKind.i64 (0 : Int), AV.int IntKind.i64 (0 : Int), AV.str (ByteArray.mk (Array.mk [])),
            AV.nil, AV.str (ByteArray.mk (Array.mk [])), AV.nil, AV.int IntKind.i64 (1 : Int)]]
      [] [])
    (Rq ((0 : Int) ≤ (0 : Int) ∧ (0 : Int) < (↑way.length : Int))
      (Br (decide (rd Ty.int way (0 : Int) < (0 : Int)))
        (Q
          [AV.agg
              [AV.nil, AV.int IntKind.i64 (0 : Int), AV.int IntKind.i64 (0 : Int), AV.str (ByteArray.mk (Array.mk [])),
                AV.nil, AV.str (ByteArray.mk (Array.mk [])), AV.nil, AV.int IntKind.i64 (6 : Int)]]
          [] [])
        (Gv (l.length ≤ maxSl)
          (Br (decide (rd Ty.int way (0 : Int) ≥ (↑l.length : Int)))
            (Q
              [AV.agg
                  [AV.nil, AV.int IntKind.i64 (0 : Int), AV.int IntKind.i64 (0 : Int),
                    AV.str (ByteArray.mk (Array.mk [])), AV.nil, AV.str (ByteArray.mk (Array.mk [])), AV.nil,
                    AV.int IntKind.i64 (6 : Int)]]
              [] [])
            (Gv (way.length ≤ maxSl)
              (Br ((↑way.length : Int) == (1 : Int))
                (Rq ((0 : Int) ≤ rd Ty.int way (0 : Int) ∧ rd Ty.int way (0 : Int) < (↑l.length : Int))
                  (Q
                    [AV.agg
                        [AV.nil, AV.int IntKind.i64 (rd Ty.node l (rd Ty.int way (0 : Int))).1,
                          AV.int IntKind.i64 (rd Ty.node l (rd Ty.int way (0 : Int))).2,
                          AV.str (rd Ty.node l (rd Ty.int way (0 : Int))).3,
                          AV.row Ty.attr (rd Ty.node l (rd Ty.int way (0 : Int))).4,
                          AV.str (rd Ty.node l (rd Ty.int way (0 : Int))).5,
                          AV.row Ty.node (rd Ty.node l (rd Ty.int way (0 : Int))).6, AV.int IntKind.i64 (0 : Int)]]
                    [] []))
                (Rq ((0 : Int) ≤ rd Ty.int way (0 : Int) ∧ rd Ty.int way (0 : Int) < (↑l.length : Int))
                  (Rq
                    ((0 : Int) ≤ (1 : Int) ∧
                      (1 : Int) ≤ (↑way.length : Int) ∧ (↑way.length : Int) ≤ (↑way.length : Int))
                    (Rq ((List.drop (Int.toNat (1 : Int)) (List.take (↑way.length : Int).toNat way)).length < k)
                      (Q
                        [AV.agg
                            [AV.row Ty.node [],
                              AV.int IntKind.i64
                                (atN (rd Ty.node l (rd Ty.int way (0 : Int))).6
                                    (List.drop (Int.toNat (1 : Int)) (List.take (↑way.length : Int).toNat way))).1,
                              AV.int IntKind.i64
                                (atN (rd Ty.node l (rd Ty.int way (0 : Int))).6
                                    (List.drop (Int.toNat (1 : Int)) (List.take (↑way.length : Int).toNat way))).2,
                              AV.str
                                (atN (rd Ty.node l (rd Ty.int way (0 : Int))).6
                                    (List.drop (Int.toNat (1 : Int)) (List.take (↑way.length : Int).toNat way))).3,
                              AV.row Ty.attr
                                (atN (rd Ty.node l (rd Ty.int way (0 : Int))).6
                                    (List.drop (Int.toNat (1 : Int)) (List.take (↑way.length : Int).toNat way))).4,
                              AV.str
                                (atN (rd Ty.node l (rd Ty.int way (0 : Int))).6
                                    (List.drop (Int.toNat (1 : Int)) (List.take (↑way.length : Int).toNat way))).5,
                              AV.row Ty.node
                                (atN (rd Ty.node l (rd Ty.int way (0 : Int))).6
                                    (List.drop (Int.toNat (1 : Int)) (List.take (↑way.length : Int).toNat way))).6,
                              AV.int IntKind.i64
                                (atErr (rd Ty.node l (rd Ty.int way (0 : Int))).6
                                  (List.drop (Int.toNat (1 : Int)) (List.take (↑way.length : Int).toNat way)))]]
                        [] [])))))))))))) := by kernel_rfl
theorem vcDoF (k : Nat) (l : List Nd) (way : List Int) (t : Int) (n : Nd) (Q : List AV → List Blk → List Blk → Prop) : (funA (cxDo k) (LL Try.f82 []) Try.f82 [.row .node l, .row .int way, .agg (.int .i64 t :: nodeL n)] [] [] Q) = (
Gv (way.length ≤ maxSl)
  (Br ((↑way.length : Int) == (0 : Int))
    (Q
      [AV.agg
          [AV.nil, AV.int IntKind.i64 (0 : Int), AV.int IntKind.i64 (0 : Int), AV.str (ByteArray.mk (Array.mk [])),
            AV.nil, AV.str (ByteArray.mk (Array.mk [])), AV.nil, AV.int IntKind.i64 (1 : Int)]]
      [] [])
    (Rq ((0 : Int) ≤ (0 : Int) ∧ (0 : Int) < (↑way.length : Int))
      (Br (decide (rd Ty.int way (0 : Int) < (0 : Int)))
        (Q
          [AV.agg
              [AV.nil, AV.int IntKind.i64 (0 : Int), AV.int IntKind.i64 (0 : Int), AV.str (ByteArray.mk (Array.mk [])),
                AV.nil, AV.str (ByteArray.mk (Array.mk [])), AV.nil, AV.int IntKind.i64 (6 : Int)]]
          [] [])
        (Br (decide (rd Ty.int way (0 : Int) > (↑l.length : Int)))
          (Gv (l.length ≤ maxSl)
            (Q
              [AV.agg
                  [AV.nil, AV.int IntKind.i64 (0 : Int), AV.int IntKind.i64 (0 : Int),
                    AV.str (ByteArray.mk (Array.mk [])), AV.nil, AV.str (ByteArray.mk (Array.mk [])), AV.nil,
                    AV.int IntKind.i64 (6 : Int)]]
              [] []))
          (Br (rd Ty.int way (0 : Int) == (↑l.length : Int))
            (Br (decide ((↑way.length : Int) > (1 : Int)))
              (Gv (l.length ≤ maxSl)
                (Gv (l.length ≤ maxSl)
                  (Gv (way.length ≤ maxSl)
                    (Q
                      [AV.agg
                          [AV.nil, AV.int IntKind.i64 (0 : Int), AV.int IntKind.i64 (0 : Int),
                            AV.str (ByteArray.mk (Array.mk [])), AV.nil, AV.str (ByteArray.mk (Array.mk [])), AV.nil,
                            AV.int IntKind.i64 (6 : Int)]]
                      [] []))))
              (Gv (l.length ≤ maxSl)
                (Gv (l.length ≤ maxSl)
                  (Gv (way.length ≤ maxSl)
                    (Br (t != (1 : Int))
                      (Q
                        [AV.agg
                            [AV.nil, AV.int IntKind.i64 (0 : Int), AV.int IntKind.i64 (0 : Int),
                              AV.str (ByteArray.mk (Array.mk [])), AV.nil, AV.str (ByteArray.mk (Array.mk [])), AV.nil,
                              AV.int IntKind.i64 (6 : Int)]]
                        [] [])
                      (Rq
                        ((0 : Int) ≤ (0 : Int) ∧
                          (0 : Int) ≤ rd Ty.int way (0 : Int) ∧ rd Ty.int way (0 : Int) ≤ (↑l.length : Int))
                        (Rq
                          ((List.drop (Int.toNat (0 : Int))
                                  (List.take (Int.toNat (rd Ty.int way (0 : Int))) l)).length *
                              (96 : Nat) ≤
                            maxSl)
                          (Gv (way.length ≤ maxSl)
                            (Br (decide ((↑way.length : Int) > (1 : Int)))
                              (Rq ((0 : Int) ≤ rd Ty.int way (0 : Int) ∧ rd Ty.int way (0 : Int) < (↑l.length : Int))
                                (Rq
                                  ((0 : Int) ≤ (1 : Int) ∧
                                    (1 : Int) ≤ (↑way.length : Int) ∧ (↑way.length : Int) ≤ (↑way.length : Int))
                                  (Rq
                                    ((List.drop (Int.toNat (1 : Int))
                                            (List.take (↑way.length : Int).toNat way)).length <
                                        k ∧
                                      wtNds (rd Ty.node l (rd Ty.int way (0 : Int))).6 +
                                          wtNd (Nd.mk n.1 n.2 n.3 n.4 n.5 n.6) ≤
                                        wtMx)
                                    (Br
                                      (doE (rd Ty.node l (rd Ty.int way (0 : Int))).6
                                          (List.drop (Int.toNat (1 : Int)) (List.take (↑way.length : Int).toNat way)) t
                                          (Nd.mk n.1 n.2 n.3 n.4 n.5 n.6) !=
                                        (0 : Int))
                                      (Q
                                        [AV.agg
                                            [AV.row Ty.node
                                                (doL (rd Ty.node l (rd Ty.int way (0 : Int))).6
                                                  (List.drop (Int.toNat (1 : Int))
                                                    (List.take (↑way.length : Int).toNat way))
                                                  t (Nd.mk n.1 n.2 n.3 n.4 n.5 n.6)),
                                              AV.int IntKind.i64 (0 : Int), AV.int IntKind.i64 (0 : Int),
                                              AV.str (ByteArray.mk (Array.mk [])), AV.row Ty.attr [],
                                              AV.str (ByteArray.mk (Array.mk [])), AV.row Ty.node [],
                                              AV.int IntKind.i64
                                                (doE (rd Ty.node l (rd Ty.int way (0 : Int))).6
                                                  (List.drop (Int.toNat (1 : Int))
                                                    (List.take (↑way.length : Int).toNat way))
                                                  t (Nd.mk n.1 n.2 n.3 n.4 n.5 n.6))]]
                                        [] [])
                                      (Rq
                                        ((0 : Int) ≤ rd Ty.int way (0 : Int) ∧
                                          rd Ty.int way (0 : Int) < (↑l.length : Int))
                                        (Rq
                                          (((List.drop (Int.toNat (0 : Int))
                                                    (List.take (Int.toNat (rd Ty.int way (0 : Int))) l)).length +
                                                [Nd.mk (rd Ty.node l (rd Ty.int way (0 : Int))).1
                                                      (rd Ty.node l (rd Ty.int way (0 : Int))).2
                                                      (rd Ty.node l (rd Ty.int way (0 : Int))).3
                                                      (rd Ty.node l (rd Ty.int way (0 : Int))).4
                                                      (rd Ty.node l (rd Ty.int way (0 : Int))).5
                                                      (doL (rd Ty.node l (rd Ty.int way (0 : Int))).6
                                                        (List.drop (Int.toNat (1 : Int))
                                                          (List.take (↑way.length : Int).toNat way))
                                                        t (Nd.mk n.1 n.2 n.3 n.4 n.5 n.6))].length) *
                                              (96 : Nat) ≤
                                            maxSl)
                                          (Rq
                                            ((0 : Int) ≤ IntKind.i64.wrap (rd Ty.int way (0 : Int) + (1 : Int)) ∧
                                              IntKind.i64.wrap (rd Ty.int way (0 : Int) + (1 : Int)) ≤
                                                  (↑l.length : Int) ∧
                                                (↑l.length : Int) ≤ (↑l.length : Int))
                                            (Rq
                                              (((List.drop (Int.toNat (0 : Int))
                                                          (List.take (Int.toNat (rd Ty.int way (0 : Int))) l) ++
                                                        [Nd.mk (rd Ty.node l (rd Ty.int way (0 : Int))).1
                                                            (rd Ty.node l (rd Ty.int way (0 : Int))).2
                                                            (rd Ty.node l (rd Ty.int way (0 : Int))).3
                                                            (rd Ty.node l (rd Ty.int way (0 : Int))).4
                                                            (rd Ty.node l (rd Ty.int way (0 : Int))).5
                                                            (doL (rd Ty.node l (rd Ty.int way (0 : Int))).6
                                                              (List.drop (Int.toNat (1 : Int))
                                                                (List.take (↑way.length : Int).toNat way))
                                                              t (Nd.mk n.1 n.2 n.3 n.4 n.5 n.6))]).length +
                                                    (List.drop
                                                        (IntKind.i64.wrap (rd Ty.int way (0 : Int) + (1 : Int))).toNat
                                                        (List.take (↑l.length : Int).toNat l)).length) *
                                                  (96 : Nat) ≤
                                                maxSl)
                                              (Q
                                                [AV.agg
                                                    [AV.row Ty.node
                                                        (List.drop (Int.toNat (0 : Int))
                                                              (List.take (Int.toNat (rd Ty.int way (0 : Int))) l) ++
                                                            [Nd.mk (rd Ty.node l (rd Ty.int way (0 : Int))).1
                                                                (rd Ty.node l (rd Ty.int way (0 : Int))).2
                                                                (rd Ty.node l (rd Ty.int way (0 : Int))).3
                                                                (rd Ty.node l (rd Ty.int way (0 : Int))).4
                                                                (rd Ty.node l (rd Ty.int way (0 : Int))).5
                                                                (doL (rd Ty.node l (rd Ty.int way (0 : Int))).6
                                                                  (List.drop (Int.toNat (1 : Int))
                                                                    (List.take (↑way.length : Int).toNat way))
                                                                  t (Nd.mk n.1 n.2 n.3 n.4 n.5 n.6))] ++
                                                          List.drop
                                                            (IntKind.i64.wrap
                                                                (rd Ty.int way (0 : Int) + (1 : Int))).toNat
                                                            (List.take (↑l.length : Int).toNat l)),
                                                      AV.int IntKind.i64 (0 : Int), AV.int IntKind.i64 (0 : Int),
                                                      AV.str (ByteArray.mk (Array.mk [])), AV.nil,
                                                      AV.str (ByteArray.mk (Array.mk [])), AV.nil,
                                                      AV.int IntKind.i64 (0 : Int)]]
                                                [] [])))))))))
                              (Br (t == (0 : Int))
                                (Rq
                                  (((List.drop (Int.toNat (0 : Int))
                                            (List.take (Int.toNat (rd Ty.int way (0 : Int))) l)).length +
                                        [Nd.mk n.1 n.2 n.3 n.4 n.5 n.6].length) *
                                      (96 : Nat) ≤
                                    maxSl)
                                  (Rq
                                    ((0 : Int) ≤ IntKind.i64.wrap (rd Ty.int way (0 : Int) + (1 : Int)) ∧
                                      IntKind.i64.wrap (rd Ty.int way (0 : Int) + (1 : Int)) ≤ (↑l.length : Int) ∧
                                        (↑l.length : Int) ≤ (↑l.length : Int))
                                    (Rq
                                      (((List.drop (Int.toNat (0 : Int))
                                                  (List.take (Int.toNat (rd Ty.int way (0 : Int))) l) ++
                                                [Nd.mk n.1 n.2 n.3 n.4 n.5 n.6]).length +
                                            (List.drop (IntKind.i64.wrap (rd Ty.int way (0 : Int) + (1 : Int))).toNat
                                                (List.take (↑l.length : Int).toNat l)).length) *
                                          (96 : Nat) ≤
                                        maxSl)
                                      (Q
                                        [AV.agg
                                            [AV.row Ty.node
                                                (List.drop (Int.toNat (0 : Int))
                                                      (List.take (Int.toNat (rd Ty.int way (0 : Int))) l) ++
                                                    [Nd.mk n.1 n.2 n.3 n.4 n.5 n.6] ++
                                                  List.drop
                                                    (IntKind.i64.wrap (rd Ty.int way (0 : Int) + (1 : Int))).toNat
                                                    (List.take (↑l.length : Int).toNat l)),
                                              AV.int IntKind.i64 (0 : Int), AV.int IntKind.i64 (0 : Int),
                                              AV.str (ByteArray.mk (Array.mk [])), AV.nil,
                                              AV.str (ByteArray.mk (Array.mk [])), AV.nil,
                                              AV.int IntKind.i64 (0 : Int)]]
                                        [] []))))
                                (Br (t == (1 : Int))
                                  (Rq
                                    (((List.drop (Int.toNat (0 : Int))
                                              (List.take (Int.toNat (rd Ty.int way (0 : Int))) l)).length +
                                          [Nd.mk n.1 n.2 n.3 n.4 n.5 n.6].length) *
                                        (96 : Nat) ≤
                                      maxSl)
                                    (Rq
                                      ((0 : Int) ≤ rd Ty.int way (0 : Int) ∧
                                        rd Ty.int way (0 : Int) ≤ (↑l.length : Int) ∧
                                          (↑l.length : Int) ≤ (↑l.length : Int))
                                      (Rq
                                        (((List.drop (Int.toNat (0 : Int))
                                                    (List.take (Int.toNat (rd Ty.int way (0 : Int))) l) ++
                                                  [Nd.mk n.1 n.2 n.3 n.4 n.5 n.6]).length +
                                              (List.drop (Int.toNat (rd Ty.int way (0 : Int)))
                                                  (List.take (↑l.length : Int).toNat l)).length) *
                                            (96 : Nat) ≤
                                          maxSl)
                                        (Q
                                          [AV.agg
                                              [AV.row Ty.node
                                                  (List.drop (Int.toNat (0 : Int))
                                                        (List.take (Int.toNat (rd Ty.int way (0 : Int))) l) ++
                                                      [Nd.mk n.1 n.2 n.3 n.4 n.5 n.6] ++
                                                    List.drop (Int.toNat (rd Ty.int way (0 : Int)))
                                                      (List.take (↑l.length : Int).toNat l)),
                                                AV.int IntKind.i64 (0 : Int), AV.int IntKind.i64 (0 : Int),
                                                AV.str (ByteArray.mk (Array.mk [])), AV.nil,
                                                AV.str (ByteArray.mk (Array.mk [])), AV.nil,
                                                AV.int IntKind.i64 (0 : Int)]]
                                          [] []))))
                                  (Rq
                                    ((0 : Int) ≤ IntKind.i64.wrap (rd Ty.int way (0 : Int) + (1 : Int)) ∧
                                      IntKind.i64.wrap (rd Ty.int way (0 : Int) + (1 : Int)) ≤ (↑l.length : Int) ∧
                                        (↑l.length : Int) ≤ (↑l.length : Int))
                                    (Rq
                                      (((List.drop (Int.toNat (0 : Int))
                                                (List.take (Int.toNat (rd Ty.int way (0 : Int))) l)).length +
                                            (List.drop (IntKind.i64.wrap (rd Ty.int way (0 : Int) + (1 : Int))).toNat
                                                (List.take (↑l.length : Int).toNat l)).length) *
                                          (96 : Nat) ≤
                                        maxSl)
                                      (Q
                                        [AV.agg
                                            [AV.row Ty.node
                                                (List.drop (Int.toNat (0 : Int))
                                                    (List.take (Int.toNat (rd Ty.int way (0 : Int))) l) ++
                                                  List.drop
                                                    (IntKind.i64.wrap (rd Ty.int way (0 : Int) + (1 : Int))).toNat
                                                    (List.take (↑l.length : Int).toNat l)),
                                              AV.int IntKind.i64 (0 : Int), AV.int IntKind.i64 (0 : Int),
                                              AV.str (ByteArray.mk (Array.mk [])), AV.nil,
                                              AV.str (ByteArray.mk (Array.mk [])), AV.nil,
                                              AV.int IntKind.i64 (0 : Int)]]
                                        [] []))))))))))))))
            (Gv (l.length ≤ maxSl)
              (Gv (l.length ≤ maxSl)
                (Rq
                  ((0 : Int) ≤ (0 : Int) ∧
                    (0 : Int) ≤ rd Ty.int way (0 : Int) ∧ rd Ty.int way (0 : Int) ≤ (↑l.length : Int))
                  (Rq
                    ((List.drop (Int.toNat (0 : Int)) (List.take (Int.toNat (rd Ty.int way (0 : Int))) l)).length *
                        (96 : Nat) ≤
                      maxSl)
                    (Gv (way.length ≤ maxSl)
                      (Br (decide ((↑way.length : Int) > (1 : Int)))
                        (Rq ((0 : Int) ≤ rd Ty.int way (0 : Int) ∧ rd Ty.int way (0 : Int) < (↑l.length : Int))
                          (Rq
                            ((0 : Int) ≤ (1 : Int) ∧
                              (1 : Int) ≤ (↑way.length : Int) ∧ (↑way.length : Int) ≤ (↑way.length : Int))
                            (Rq
                              ((List.drop (Int.toNat (1 : Int)) (List.take (↑way.length : Int).toNat way)).length < k ∧
                                wtNds (rd Ty.node l (rd Ty.int way (0 : Int))).6 +
                                    wtNd (Nd.mk n.1 n.2 n.3 n.4 n.5 n.6) ≤
                                  wtMx)
                              (Br
                                (doE (rd Ty.node l (rd Ty.int way (0 : Int))).6
                                    (List.drop (Int.toNat (1 : Int)) (List.take (↑way.length : Int).toNat way)) t
                                    (Nd.mk n.1 n.2 n.3 n.4 n.5 n.6) !=
                                  (0 : Int))
                                (Q
                                  [AV.agg
                                      [AV.row Ty.node
                                          (doL (rd Ty.node l (rd Ty.int way (0 : Int))).6
                                            (List.drop (Int.toNat (1 : Int)) (List.take (↑way.length : Int).toNat way))
                                            t (Nd.mk n.1 n.2 n.3 n.4 n.5 n.6)),
                                        AV.int IntKind.i64 (0 : Int), AV.int IntKind.i64 (0 : Int),
                                        AV.str (ByteArray.mk (Array.mk [])), AV.row Ty.attr [],
                                        AV.str (ByteArray.mk (Array.mk [])), AV.row Ty.node [],
                                        AV.int IntKind.i64
                                          (doE (rd Ty.node l (rd Ty.int way (0 : Int))).6
                                            (List.drop (Int.toNat (1 : Int)) (List.take (↑way.length : Int).toNat way))
                                            t (Nd.mk n.1 n.2 n.3 n.4 n.5 n.6))]]
                                  [] [])
                                (Rq ((0 : Int) ≤ rd Ty.int way (0 : Int) ∧ rd Ty.int way (0 : Int) < (↑l.length : Int))
                                  (Rq
                                    (((List.drop (Int.toNat (0 : Int))
                                              (List.take (Int.toNat (rd Ty.int way (0 : Int))) l)).length +
                                          [Nd.mk (rd Ty.node l (rd Ty.int way (0 : Int))).1
                                                (rd Ty.node l (rd Ty.int way (0 : Int))).2
                                                (rd Ty.node l (rd Ty.int way (0 : Int))).3
                                                (rd Ty.node l (rd Ty.int way (0 : Int))).4
                                                (rd Ty.node l (rd Ty.int way (0 : Int))).5
                                                (doL (rd Ty.node l (rd Ty.int way (0 : Int))).6
                                                  (List.drop (Int.toNat (1 : Int))
                                                    (List.take (↑way.length : Int).toNat way))
                                                  t (Nd.mk n.1 n.2 n.3 n.4 n.5 n.6))].length) *
                                        (96 : Nat) ≤
                                      maxSl)
                                    (Rq
                                      ((0 : Int) ≤ IntKind.i64.wrap (rd Ty.int way (0 : Int) + (1 : Int)) ∧
                                        IntKind.i64.wrap (rd Ty.int way (0 : Int) + (1 : Int)) ≤ (↑l.length : Int) ∧
                                          (↑l.length : Int) ≤ (↑l.length : Int))
                                      (Rq
                                        (((List.drop (Int.toNat (0 : Int))
                                                    (List.take (Int.toNat (rd Ty.int way (0 : Int))) l) ++
                                                  [Nd.mk (rd Ty.node l (rd Ty.int way (0 : Int))).1
                                                      (rd Ty.node l (rd Ty.int way (0 : Int))).2
                                                      (rd Ty.node l (rd Ty.int way (0 : Int))).3
                                                      (rd Ty.node l (rd Ty.int way (0 : Int))).4
                                                      (rd Ty.node l (rd Ty.int way (0 : Int))).5
                                                      (doL (rd Ty.node l (rd Ty.int way (0 : Int))).6
                                                        (List.drop (Int.toNat (1 : Int))
                                                          (List.take (↑way.length : Int).toNat way))
                                                        t (Nd.mk n.1 n.2 n.3 n.4 n.5 n.6))]).length +
                                              (List.drop (IntKind.i64.wrap (rd Ty.int way (0 : Int) + (1 : Int))).toNat
                                                  (List.take (↑l.length : Int).toNat l)).length) *
                                            (96 : Nat) ≤
                                          maxSl)
                                        (Q
                                          [AV.agg
                                              [AV.row Ty.node
                                                  (List.drop (Int.toNat (0 : Int))
                                                        (List.take (Int.toNat (rd Ty.int way (0 : Int))) l) ++
                                                      [Nd.mk (rd Ty.node l (rd Ty.int way (0 : Int))).1
                                                          (rd Ty.node l (rd Ty.int way (0 : Int))).2
                                                          (rd Ty.node l (rd Ty.int way (0 : Int))).3
                                                          (rd Ty.node l (rd Ty.int way (0 : Int))).4
                                                          (rd Ty.node l (rd Ty.int way (0 : Int))).5
                                                          (doL (rd Ty.node l (rd Ty.int way (0 : Int))).6
                                                            (List.drop (Int.toNat (1 : Int))
                                                              (List.take (↑way.length : Int).toNat way))
                                                            t (Nd.mk n.1 n.2 n.3 n.4 n.5 n.6))] ++
                                                    List.drop
                                                      (IntKind.i64.wrap (rd Ty.int way (0 : Int) + (1 : Int))).toNat
                                                      (List.take (↑l.length : Int).toNat l)),
                                                AV.int IntKind.i64 (0 : Int), AV.int IntKind.i64 (0 : Int),
                                                AV.str (ByteArray.mk (Array.mk [])), AV.nil,
                                                AV.str (ByteArray.mk (Array.mk [])), AV.nil,
                                                AV.int IntKind.i64 (0 : Int)]]
                                          [] [])))))))))
                        (Br (t == (0 : Int))
                          (Rq
                            (((List.drop (Int.toNat (0 : Int))
                                      (List.take (Int.toNat (rd Ty.int way (0 : Int))) l)).length +
                                  [Nd.mk n.1 n.2 n.3 n.4 n.5 n.6].length) *
                                (96 : Nat) ≤
                              maxSl)
                            (Rq
                              ((0 : Int) ≤ IntKind.i64.wrap (rd Ty.int way (0 : Int) + (1 : Int)) ∧
                                IntKind.i64.wrap (rd Ty.int way (0 : Int) + (1 : Int)) ≤ (↑l.length : Int) ∧
                                  (↑l.length : Int) ≤ (↑l.length : Int))
                              (Rq
                                (((List.drop (Int.toNat (0 : Int))
                                            (List.take (Int.toNat (rd Ty.int way (0 : Int))) l) ++
                                          [Nd.mk n.1 n.2 n.3 n.4 n.5 n.6]).length +
                                      (List.drop (IntKind.i64.wrap (rd Ty.int way (0 : Int) + (1 : Int))).toNat
                                          (List.take (↑l.length : Int).toNat l)).length) *
                                    (96 : Nat) ≤
                                  maxSl)
                                (Q
                                  [AV.agg
                                      [AV.row Ty.node
                                          (List.drop (Int.toNat (0 : Int))
                                                (List.take (Int.toNat (rd Ty.int way (0 : Int))) l) ++
                                              [Nd.mk n.1 n.2 n.3 n.4 n.5 n.6] ++
                                            List.drop (IntKind.i64.wrap (rd Ty.int way (0 : Int) + (1 : Int))).toNat
                                              (List.take (↑l.length : Int).toNat l)),
                                        AV.int IntKind.i64 (0 : Int), AV.int IntKind.i64 (0 : Int),
                                        AV.str (ByteArray.mk (Array.mk [])), AV.nil,
                                        AV.str (ByteArray.mk (Array.mk [])), AV.nil, AV.int IntKind.i64 (0 : Int)]]
                                  [] []))))
                          (Br (t == (1 : Int))
                            (Rq
                              (((List.drop (Int.toNat (0 : Int))
                                        (List.take (Int.toNat (rd Ty.int way (0 : Int))) l)).length +
                                    [Nd.mk n.1 n.2 n.3 n.4 n.5 n.6].length) *
                                  (96 : Nat) ≤
                                maxSl)
                              (Rq
                                ((0 : Int) ≤ rd Ty.int way (0 : Int) ∧
                                  rd Ty.int way (0 : Int) ≤ (↑l.length : Int) ∧ (↑l.length : Int) ≤ (↑l.length : Int))
                                (Rq
                                  (((List.drop (Int.toNat (0 : Int))
                                              (List.take (Int.toNat (rd Ty.int way (0 : Int))) l) ++
                                            [Nd.mk n.1 n.2 n.3 n.4 n.5 n.6]).length +
                                        (List.drop (Int.toNat (rd Ty.int way (0 : Int)))
                                            (List.take (↑l.length : Int).toNat l)).length) *
                                      (96 : Nat) ≤
                                    maxSl)
                                  (Q
                                    [AV.agg
                                        [AV.row Ty.node
                                            (List.drop (Int.toNat (0 : Int))
                                                  (List.take (Int.toNat (rd Ty.int way (0 : Int))) l) ++
                                                [Nd.mk n.1 n.2 n.3 n.4 n.5 n.6] ++
                                              List.drop (Int.toNat (rd Ty.int way (0 : Int)))
                                                (List.take (↑l.length : Int).toNat l)),
                                          AV.int IntKind.i64 (0 : Int), AV.int IntKind.i64 (0 : Int),
                                          AV.str (ByteArray.mk (Array.mk [])), AV.nil,
                                          AV.str (ByteArray.mk (Array.mk [])), AV.nil, AV.int IntKind.i64 (0 : Int)]]
                                    [] []))))
                            (Rq
                              ((0 : Int) ≤ IntKind.i64.wrap (rd Ty.int way (0 : Int) + (1 : Int)) ∧
                                IntKind.i64.wrap (rd Ty.int way (0 : Int) + (1 : Int)) ≤ (↑l.length : Int) ∧
                                  (↑l.length : Int) ≤ (↑l.length : Int))
                              (Rq
                                (((List.drop (Int.toNat (0 : Int))
                                          (List.take (Int.toNat (rd Ty.int way (0 : Int))) l)).length +
                                      (List.drop (IntKind.i64.wrap (rd Ty.int way (0 : Int) + (1 : Int))).toNat
                                          (List.take (↑l.length : Int).toNat l)).length) *
                                    (96 : Nat) ≤
                                  maxSl)
                                (Q
                                  [AV.agg
                                      [AV.row Ty.node
                                          (List.drop (Int.toNat (0 : Int))
                                              (List.take (Int.toNat (rd Ty.int way (0 : Int))) l) ++
                                            List.drop (IntKind.i64.wrap (rd Ty.int way (0 : Int) + (1 : Int))).toNat
                                              (List.take (↑l.length : Int).toNat l)),
                                        AV.int IntKind.i64 (0 : Int), AV.int IntKind.i64 (0 : Int),
                                        AV.str (ByteArray.mk (Array.mk [])), AV.nil,
                                        AV.str (ByteArray.mk (Array.mk [])), AV.nil, AV.int IntKind.i64 (0 : Int)]]
                                  [] []))))))))))))))))) := by kernel_rfl
end Go.Proofs.Ytmkjjopflncedaa.AX
end
section
namespace Go.Proofs.Ytmkjjopflncedaa.AXP
open Go Go.Proofs.Ytmkjjopflncedaa.AX
theorem lastW_cons {i : Int} {ws : List Int} (h : ws ≠ []) : lastW (i :: ws) = lastW ws := by
  unfold lastW
  cases ws with
  | nil => exact (h rfl).elim
  | cons j ws => rfl
theorem atW_one (l : List Nd) (i : Int) : atW l [i] = if inB l i = true then some (l.getD i.toNat default) else none := by
  unfold atW; rfl
theorem atW_cons {l : List Nd} {i : Int} {ws : List Int} (h : ws ≠ []) : atW l (i :: ws) = if inB l i = true then atW (l.getD i.toNat default).kids ws else none := by
  have hd : (i :: ws).dropLast = i :: ws.dropLast := by cases ws with
    | nil => exact (h rfl).elim
    | cons j ws => rfl
  have hl : ws.length ≠ 0 := fun e => h (List.eq_nil_of_length_eq_zero e)
  unfold atW
  rw [if_neg (by simp), if_neg hl, hd, lastW_cons h, stepsW]
  split
  · rfl
  · rfl
end Go.Proofs.Ytmkjjopflncedaa.AXP
namespace Go.Proofs.Ytmkjjopflncedaa.AX
open Go AXP
set_option maxRecDepth 100000
def nilG (e : Int) : List AV := [.nil, .int .i64 0, .int .i64 0, .str ⟨#[]⟩, .nil, .str ⟨#[]⟩, .nil, .int .i64 e]
theorem Meets.res_to {cx : Cx} {f : Nat} {args : List AV} {hp : List Blk} {ans : Ans} {x y : AV} (e : ans.res = x) (hx : ∀ vs, x ≠ .tup vs) (hy : ∀ vs, y ≠ .tup vs) (h : AVle x y) (hm : Meets cx f args hp ans) : Meets cx f args hp { ans with res := y } := by
  intro F I w vals hH hv hpre
  refine (hm F I w vals hH hv hpre).mono ?_
  rintro e' w' ⟨v, I', h1, h2, h3⟩
  refine ⟨v, I', h1, ?_, h3⟩
  rw [e, ValR.is1 hx] at h2
  show ValR _ _ _ _ y
  rw [ValR.is1 hy]
  exact h _ _ _ _ h2
theorem nilG_le (e : Int) : AVle (.agg (nilG e)) (.agg (gotL [] default e)) := fun w O I v hv => by
  obtain ⟨cs, h1, h2⟩ := hv
  refine ⟨cs, h1, ?_⟩
  unfold nilG at h2
  cases h2 with | cons b t => cases t with | cons a0 t => cases t with | cons a1 t => cases t with | cons a2 t => cases t with | cons a3 t => cases t with | cons a4 t => cases t with | cons a5 t => cases t with | cons a6 t => cases t with | nil =>
  cases b; cases a3; cases a5
  exact .cons (.row0 _) (.cons a0 (.cons a1 (.cons a2 (.cons (.row0 _) (.cons a4 (.cons (.row0 _) (.cons a6 .nil)))))))
theorem nilN_le (n : Nd) (e : Int) : AVle (.agg (.nil :: (nodeL n ++ [.int .i64 e]))) (.agg (gotL [] n e)) := fun w O I v hv => by
  obtain ⟨cs, h1, h2⟩ := hv
  refine ⟨cs, h1, ?_⟩
  cases h2 with | cons b t =>
  cases b
  exact .cons (.row0 _) t
/-- What At answers, in the form in which it is built. -/
def gatForm (l : List Nd) : List Int → List AV
  | [] => nilG 1
  | i :: ws => if inB l i = true then (if ws.length = 0 then .nil :: (nodeL (l.getD i.toNat default) ++ [.int .i64 0]) else gotL [] (atN (l.getD i.toNat default).kids ws) (atErr (l.getD i.toNat default).kids ws)) else nilG 6
theorem gat_cons (l : List Nd) (i : Int) (ws : List Int) : gatForm l (i :: ws) = if inB l i = true then (if ws.length = 0 then .nil :: (nodeL (l.getD i.toNat default) ++ [.int .i64 0]) else gotL [] (atN (l.getD i.toNat default).kids ws) (atErr (l.getD i.toNat default).kids ws)) else nilG 6 := rfl
theorem gatForm_le (l : List Nd) (way : List Int) : AVle (.agg (gatForm l way)) (.agg (gotL [] (atN l way) (atErr l way))) := by
  cases way with
  | nil => exact nilG_le 1
  | cons i ws =>
    rw [gat_cons]
    by_cases hi : inB l i = true
    · rw [if_pos hi]
      by_cases hw : ws.length = 0
      · rw [if_pos hw]
        have hw' := List.eq_nil_of_length_eq_zero hw
        subst hw'
        have e1 : atN l [i] = l.getD i.toNat default := by unfold atN; rw [atW_one, if_pos hi]; rfl
        have e2 : atErr l [i] = 0 := by unfold atErr; rw [atW_one, if_pos hi]; rfl
        rw [e1, e2]; exact nilN_le _ _
      · rw [if_neg hw]
        have hne : ws ≠ [] := fun e => hw (by rw [e]; rfl)
        have e1 : atN l (i :: ws) = atN (l.getD i.toNat default).kids ws := by unfold atN; rw [atW_cons hne, if_pos hi]
        have e2 : atErr l (i :: ws) = atErr (l.getD i.toNat default).kids ws := by unfold atErr; rw [if_neg (by simp), if_neg hw, atW_cons hne, if_pos hi]
        rw [e1, e2]; exact .refl _
    · rw [if_neg hi]
      have e0 : atW l (i :: ws) = none := by
        cases ws with
        | nil => rw [atW_one, if_neg hi]
        | cons j ws => rw [atW_cons (by simp), if_neg hi]
      have e1 : atN l (i :: ws) = default := by unfold atN; rw [e0]; rfl
      have e2 : atErr l (i :: ws) = 6 := by unfold atErr; rw [if_neg (by simp), e0]; rfl
      rw [e1, e2]; exact nilG_le 6
theorem gat_lt : ∀ k, Holds 83 (conGAtLt k)
  | 0 => by
    intro args hp ans hc
    unfold conGAtLt at hc
    split at hc
    · simp only [Option.bind_eq_some_iff] at hc
      obtain ⟨a, hx, b, hy, hc⟩ := hc
      injection hc with hc
      subst hc
      intro F I w vals _ _ hpre
      exact absurd (hpre _ rfl) (Nat.not_lt_zero _)
    · cases hc
  | k + 1 => by
    intro args hp ans hc
    unfold conGAtLt at hc
    split at hc
    case h_2 => cases hc
    rename_i x y
    simp only [Option.bind_eq_some_iff] at hc
    obtain ⟨l, hx, way, hy, hc⟩ := hc
    injection hc with hc
    subst hc
    refine Meets.weaken (args' := [.row .node l, .row .int way]) (.cons (rowOf_le hx) (.cons (rowOf_le hy) .nil)) ?_
    refine Meets.res_to (ans := { pre := some (way.length < k + 1), res := .agg (gatForm l way) }) rfl (fun _ h => nomatch h) (fun _ h => nomatch h) (gatForm_le l way) ?_
    refine fun_meets0 (AllH.tok (.cons (gat_lt k) (by kernel_rfl) .nil)) [] (by kernel_rfl) (by kernel_rfl) fun hpre => Eq.mpr (vcGAtF k l way _) ?_
    have hk : way.length < k + 1 := hpre _ rfl
    cases way with
    | nil => exact ⟨fun _ => ⟨fun _ => qfin rfl rfl rfl rfl, fun h => absurd h (by decide)⟩⟩
    | cons i ws =>
      have hr : rd .int (i :: ws) 0 = i := rd_int (a := i :: ws) (i := 0) (by simp)
      rw [hr]
      have fin : ∀ xs, gatForm l (i :: ws) = xs → FinQ { pre := some ((i :: ws).length < k + 1), res := .agg (gatForm l (i :: ws)) } [.agg xs] [] [] := fun xs h => qfin rfl (by show _ = [AV.agg (gatForm l (i :: ws))]; rw [h]) rfl rfl
      refine ⟨fun hm => ⟨fun h => by simp at h; omega, fun _ => ⟨⟨by omega, by simp only [List.length_cons]; omega⟩, ⟨fun h1 => fin _ ?_, fun h1 => ⟨fun hml => ⟨fun h2 => fin _ ?_, fun h2 => ?_⟩⟩⟩⟩⟩⟩
      · have h1 : @LT.lt Int _ i 0 := of_decide_eq_true h1
        rw [gat_cons]
        rw [if_neg (by simp only [inB, Bool.and_eq_true, decide_eq_true_eq]; omega)]; rfl
      · have h1 : ¬ @LT.lt Int _ i 0 := of_decide_eq_false h1
        have h2 : @GE.ge Int _ i (l.length : Int) := of_decide_eq_true h2
        rw [gat_cons]
        rw [if_neg (by simp only [inB, Bool.and_eq_true, decide_eq_true_eq]; omega)]; rfl
      · have h1 : ¬ @LT.lt Int _ i 0 := of_decide_eq_false h1
        have h2 : ¬ @GE.ge Int _ i (l.length : Int) := of_decide_eq_false h2
        have hi : inB l i = true := by simp only [inB, Bool.and_eq_true, decide_eq_true_eq]; omega
        obtain ⟨z1, z2⟩ := getD_of hi
        have hrd : rd .node l i = l.getD i.toNat default := by rw [z2]; exact rd_eq (t := .node) z1
        rw [hrd]
        have hb : @LE.le Int _ 0 i ∧ @LT.lt Int _ i (l.length : Int) := by omega
        refine ⟨fun _ => ⟨fun h3 => ⟨hb, fin _ ?_⟩, fun h3 => ⟨hb, ⟨⟨by omega, by simp only [List.length_cons]; omega, by omega⟩, ?_⟩⟩⟩⟩
        · have h3 : ws.length = 0 := by
            have h4 : ((i :: ws).length : Int) = 1 := by simpa using h3
            rw [List.length_cons] at h4; omega
          rw [gat_cons]
          rw [if_pos hi, if_pos h3]; rfl
        · have h3 : ws.length ≠ 0 := by
            have h4 : ¬ ((i :: ws).length : Int) = 1 := by simpa using h3
            rw [List.length_cons] at h4; omega
          have e : List.drop (Int.toNat 1) (List.take (((i :: ws).length : Int)).toNat (i :: ws)) = ws := by
            rw [Int.toNat_natCast, List.take_length]; rfl
          rw [e]
          refine ⟨by simp only [List.length_cons] at hk; omega, fin _ ?_⟩
          rw [gat_cons]
          rw [if_pos hi, if_neg h3]; rfl
def conGAt : Con := fun args hp => match args, hp with
  | [x, y], [] => (rowOf .node x).bind fun l => (rowOf .int y).bind fun way => some { res := .agg (gotL [] (atN l way) (atErr l way)) }
  | _, _ => none
theorem gat_holds : Holds 83 conGAt := by
  intro args hp ans hc
  unfold conGAt at hc
  split at hc
  case h_2 => cases hc
  rename_i x y
  simp only [Option.bind_eq_some_iff] at hc
  obtain ⟨l, hx, way, hy, hc⟩ := hc
  injection hc with hc
  subst hc
  exact Meets.nopre (ans := { pre := some (way.length < way.length + 1), res := .agg (gotL [] (atN l way) (atErr l way)) }) (gat_lt (way.length + 1) [x, y] [] _ (by simp only [conGAtLt, hx, hy, Option.bind_some])) (fun p hp => by injection hp with hp; subst hp; exact Nat.lt_succ_self _)
end Go.Proofs.Ytmkjjopflncedaa.AX
end
section
namespace Go.Proofs.Ytmkjjopflncedaa.AXP
open Go Go.Proofs.Ytmkjjopflncedaa.AX
theorem dropLast_cons {i : Int} {ws : List Int} (h : ws ≠ []) : (i :: ws).dropLast = i :: ws.dropLast := by cases ws with
  | nil => exact (h rfl).elim
  | cons j ws => rfl
theorem set_app {l : List Nd} {i : Nat} (x : Nd) (h : i < l.length) : l.take i ++ [x] ++ l.drop (i + 1) = l.set i x := by
  rw [List.append_assoc, List.singleton_append, List.set_eq_take_append_cons_drop, if_pos h]
theorem onW_one (l : List Nd) (i : Int) (g : List Nd → Int → List Nd) : onW l [i] g = g l i := by unfold onW; rfl
theorem onW_cons {l : List Nd} {i : Int} {ws : List Int} {g : List Nd → Int → List Nd} (h : ws ≠ []) (hi : inB l i = true) (hf : foundW (l.getD i.toNat default).kids ws = true) :
    onW l (i :: ws) g = l.set i.toNat { l.getD i.toNat default with kids := onW (l.getD i.toNat default).kids ws g } := by
  have e1 : foundW l (i :: ws) = true := by unfold foundW at *; rw [dropLast_cons h, stepsW, if_pos hi]; exact hf
  have e2 : subW l (i :: ws) = subW (l.getD i.toNat default).kids ws := by unfold subW; rw [dropLast_cons h, stepsW, if_pos hi]
  unfold onW
  rw [if_pos e1, if_pos hf, e2, dropLast_cons h, lastW_cons h, plugS]
theorem foundW_cons {l : List Nd} {i : Int} {ws : List Int} (h : ws ≠ []) : foundW l (i :: ws) = (inB l i && foundW (l.getD i.toNat default).kids ws) := by
  unfold foundW
  rw [dropLast_cons h, stepsW]
  cases inB l i <;> rfl
theorem doS_bad {l : List Nd} {i : Int} {ws : List Int} {t : Int} {n : Nd} (h : ws ≠ []) (hi : inB l i = false) : doS l (i :: ws) t n = .error 6 := by
  have hl : 0 < ws.length := List.length_pos_iff.2 h
  rw [doS, if_pos]
  have hi : ¬ (0 ≤ i ∧ i < (l.length : Int)) := by
    intro hh
    have : inB l i = true := by simp only [inB, Bool.and_eq_true, decide_eq_true_eq]; exact hh
    rw [hi] at this; cases this
  simp only [Bool.or_eq_true, Bool.and_eq_true, decide_eq_true_eq, beq_iff_eq]
  by_cases h0 : i < 0
  · exact .inl (.inl h0)
  · by_cases h1 : i > (l.length : Int)
    · exact .inl (.inr h1)
    · exact .inr ⟨by omega, .inl (by omega)⟩
theorem doS_down {l : List Nd} {i : Int} {ws : List Int} {t : Int} {n : Nd} (h : ws ≠ []) (hi : inB l i = true) : doS l (i :: ws) t n = (match doS (l.getD i.toNat default).kids ws t n with
    | .error e => .error e
    | .ok k => .ok (l.set i.toNat { l.getD i.toNat default with kids := k })) := by
  obtain ⟨z1, _⟩ := getD_of hi
  have hl : ws.length ≠ 0 := fun e => h (List.eq_nil_of_length_eq_zero e)
  simp only [inB, Bool.and_eq_true, decide_eq_true_eq] at hi
  rw [doS, if_neg, if_neg hl]
  · cases doS (l.getD i.toNat default).kids ws t n with
    | error e => rfl
    | ok k => simp only [set_app _ z1]
  · simp only [Bool.or_eq_true, Bool.and_eq_true, decide_eq_true_eq, beq_iff_eq]
    omega
theorem doS_ins : ∀ (way : List Int) (l : List Nd) (n : Nd), doS l way 1 n = (match insR l way n with
    | some r => .ok r
    | none => .error (if way.length = 0 then 1 else 6))
  | [], l, n => rfl
  | [i], l, n => by
    have hc : insR l [i] n = if okIns l i = true then some (insAt l i n) else none := by
      unfold insR okInsW
      have e1 : foundW l [i] = true := rfl
      have e2 : subW l [i] = l := rfl
      rw [if_pos e1, e1, e2]
      show (if (true && true && okIns l i) = true then some (insW l [i] n) else none) = _
      rw [Bool.true_and, Bool.true_and]; rfl
    rw [hc, doS]
    by_cases hk : okIns l i = true
    · have hk' := hk
      simp only [okIns, Bool.and_eq_true, decide_eq_true_eq] at hk'
      rw [if_pos hk, if_neg (by simp; omega), if_pos (show ([] : List Int).length = 0 from rfl), insAt_of hk'.1 hk'.2]
      simp
    · rw [if_neg hk, if_pos]
      · simp
      · simp only [okIns, Bool.and_eq_true, decide_eq_true_eq] at hk
        simp only [Bool.or_eq_true, decide_eq_true_eq]
        by_cases h0 : i < 0
        · exact .inl (.inl h0)
        · exact .inl (.inr (by omega))
  | i :: j :: ws, l, n => by
    have hne : j :: ws ≠ [] := by simp
    by_cases hi : inB l i = true
    · rw [doS_down hne hi, doS_ins (j :: ws)]
      have hx : insR l (i :: j :: ws) n = (insR (l.getD i.toNat default).kids (j :: ws) n).map fun k => l.set i.toNat { l.getD i.toNat default with kids := k } := by
        unfold insR
        have hf := foundW_cons (l := l) (i := i) hne
        rw [hi, Bool.true_and] at hf
        have hs : subW l (i :: j :: ws) = subW (l.getD i.toNat default).kids (j :: ws) := by unfold subW; rw [dropLast_cons hne, stepsW, if_pos hi]
        have hok : okInsW l (i :: j :: ws) false = okInsW (l.getD i.toNat default).kids (j :: ws) false := by unfold okInsW; rw [hf, hs, lastW_cons hne]
        rw [hf, hok]
        by_cases hc : (foundW (l.getD i.toNat default).kids (j :: ws) && okInsW (l.getD i.toNat default).kids (j :: ws) false) = true
        · have hc' := hc
          simp only [Bool.and_eq_true] at hc'
          rw [hc'.1, hc'.2]
          have : insW l (i :: j :: ws) n = _ := onW_cons (g := fun xs i => insAt xs i n) hne hi hc'.1
          simp only [List.length_cons, this]
          rfl
        · rw [if_neg (by simp only [Bool.and_eq_true] at hc ⊢; intro hh; exact hc ⟨hh.1.2, hh.2⟩), if_neg (by simp only [Bool.and_eq_true] at hc ⊢; intro hh; exact hc ⟨hh.1.2, hh.2⟩)]; rfl
      rw [hx]
      cases insR (l.getD i.toNat default).kids (j :: ws) n <;> rfl
    · have hi : inB l i = false := by simpa using hi
      rw [doS_bad hne hi]
      have hx : insR l (i :: j :: ws) n = none := by
        unfold insR
        rw [foundW_cons hne, hi, Bool.false_and, Bool.and_false]; rfl
      rw [hx]; rfl
theorem found_at {l : List Nd} {way : List Int} {m : Nd} (h : atW l way = some m) : foundW l way = true := by
  obtain ⟨xs, _, hs, _⟩ := at_some h
  unfold foundW; rw [hs]; rfl
theorem doS_at : ∀ (way : List Int) (l : List Nd) (t : Int) (n m : Nd), (t == 1) = false → atW l way = some m → doS l way t n = .ok (if (t == 0) = true then putW l way n else cutW l way)
  | [], l, t, n, m, _, h => by cases h
  | [i], l, t, n, m, ht, h => by
    rw [atW_one] at h
    split at h
    case isFalse => cases h
    rename_i hi
    simp only [inB, Bool.and_eq_true, decide_eq_true_eq] at hi
    rw [doS, if_neg, if_pos (show ([] : List Int).length = 0 from rfl), show putW l [i] n = putAt l i n from onW_one _ _ _, show cutW l [i] = cutAt l i from onW_one _ _ _]
    · rw [ht]
      unfold putAt cutAt
      split <;> rfl
    · simp only [Bool.or_eq_true, Bool.and_eq_true, decide_eq_true_eq, beq_iff_eq]
      omega
  | i :: j :: ws, l, t, n, m, ht, h => by
    have hne : j :: ws ≠ [] := by simp
    rw [atW_cons hne] at h
    split at h
    case isFalse => cases h
    rename_i hi
    have hf := found_at h
    rw [doS_down hne hi, doS_at (j :: ws) _ t n m ht h]
    have e1 : putW l (i :: j :: ws) n = _ := onW_cons (g := fun xs i => putAt xs i n) hne hi hf
    have e2 : cutW l (i :: j :: ws) = _ := onW_cons (g := cutAt) hne hi hf
    rw [e1, e2]
    by_cases h0 : (t == 0) = true
    · simp only [if_pos h0]; rfl
    · simp only [if_neg h0]; rfl
/-- An edit, as the document applies it. -/
theorem doE_ins (l : List Nd) (way : List Int) (n : Nd) : (doE l way 1 n = 0 ↔ (insR l way n).isSome = true) ∧ ((insR l way n).isSome = true → doL l way 1 n = (insR l way n).getD []) := by
  unfold doE doL
  rw [doS_ins]
  cases insR l way n with
  | none => refine ⟨⟨fun h => ?_, fun h => (by cases h)⟩, fun h => (by cases h)⟩; simp only [errX] at h; split at h <;> cases h
  | some r => exact ⟨⟨fun _ => rfl, fun _ => rfl⟩, fun _ => rfl⟩
end Go.Proofs.Ytmkjjopflncedaa.AXP
end
section
namespace Go.Proofs.Ytmkjjopflncedaa.AX
open Go AXP
set_option maxRecDepth 100000
def outG (L : List Nd) : List AV := [.row .node L, .int .i64 0, .int .i64 0, .str ⟨#[]⟩, .nil, .str ⟨#[]⟩, .nil, .int .i64 0]
theorem outG_le (L : List Nd) : AVle (.agg (outG L)) (.agg (gotL L default 0)) := fun w O I v hv => by
  obtain ⟨cs, h1, h2⟩ := hv
  refine ⟨cs, h1, ?_⟩
  unfold outG at h2
  cases h2 with | cons b t => cases t with | cons a0 t => cases t with | cons a1 t => cases t with | cons a2 t => cases t with | cons a3 t => cases t with | cons a4 t => cases t with | cons a5 t => cases t with | cons a6 t => cases t with | nil =>
  cases a3; cases a5
  exact .cons b (.cons a0 (.cons a1 (.cons a2 (.cons (.row0 _) (.cons a4 (.cons (.row0 _) (.cons a6 .nil)))))))
def doBad (l : List Nd) (i : Int) (ws : List Int) (t : Int) : Bool := decide (i < 0) || decide (i > (l.length : Int)) || (i == (l.length : Int) && (decide ((ws.length : Int) + 1 > 1) || t != 1))
def doForm (l : List Nd) (t : Int) (n : Nd) : List Int → List AV
  | [] => nilG 1
  | i :: ws => if doBad l i ws t = true then nilG 6
    else if ws.length = 0 then outG (if (t == 0) = true then l.take i.toNat ++ [n] ++ l.drop (i.toNat + 1) else if (t == 1) = true then l.take i.toNat ++ [n] ++ l.drop i.toNat else l.take i.toNat ++ l.drop (i.toNat + 1))
    else if doE (l.getD i.toNat default).kids ws t n = 0 then outG (l.take i.toNat ++ [{ l.getD i.toNat default with kids := doL (l.getD i.toNat default).kids ws t n }] ++ l.drop (i.toNat + 1))
    else gotL (doL (l.getD i.toNat default).kids ws t n) default (doE (l.getD i.toNat default).kids ws t n)
theorem do_cons (l : List Nd) (t : Int) (n : Nd) (i : Int) (ws : List Int) : doForm l t n (i :: ws) = if doBad l i ws t = true then nilG 6
    else if ws.length = 0 then outG (if (t == 0) = true then l.take i.toNat ++ [n] ++ l.drop (i.toNat + 1) else if (t == 1) = true then l.take i.toNat ++ [n] ++ l.drop i.toNat else l.take i.toNat ++ l.drop (i.toNat + 1))
    else if doE (l.getD i.toNat default).kids ws t n = 0 then outG (l.take i.toNat ++ [{ l.getD i.toNat default with kids := doL (l.getD i.toNat default).kids ws t n }] ++ l.drop (i.toNat + 1))
    else gotL (doL (l.getD i.toNat default).kids ws t n) default (doE (l.getD i.toNat default).kids ws t n) := rfl
theorem doS_eq (l : List Nd) (t : Int) (n : Nd) (i : Int) (ws : List Int) : doS l (i :: ws) t n = if doBad l i ws t = true then .error 6
    else if ws.length = 0 then (if (t == 0) = true then .ok (l.take i.toNat ++ [n] ++ l.drop (i.toNat + 1)) else if (t == 1) = true then .ok (l.take i.toNat ++ [n] ++ l.drop i.toNat) else .ok (l.take i.toNat ++ l.drop (i.toNat + 1)))
    else (match doS (l.getD i.toNat default).kids ws t n with
      | .error e => .error e
      | .ok k => .ok (l.take i.toNat ++ [{ l.getD i.toNat default with kids := k }] ++ l.drop (i.toNat + 1))) := by rw [doS]; rfl
theorem doS_err : ∀ {way : List Int} {l : List Nd} {t e : Int} {n : Nd}, doS l way t n = .error e → e ≠ 0
  | [], l, t, e, n, h => by injection h with h; subst h; decide
  | i :: ws, l, t, e, n, h => by
    rw [doS_eq] at h
    split at h
    · injection h with h; subst h; decide
    · split at h
      · split at h
        · cases h
        · split at h <;> cases h
      · split at h
        · rename_i hd
          injection h with h
          subst h
          exact doS_err hd
        · cases h
theorem doForm_le (l : List Nd) (way : List Int) (t : Int) (n : Nd) : AVle (.agg (doForm l t n way)) (.agg (gotL (doL l way t n) default (doE l way t n))) := by
  cases way with
  | nil => exact nilG_le 1
  | cons i ws =>
    have eL : doL l (i :: ws) t n = okX (doS l (i :: ws) t n) := rfl
    have eE : doE l (i :: ws) t n = errX (doS l (i :: ws) t n) := rfl
    rw [do_cons, eL, eE, doS_eq]
    by_cases hb : doBad l i ws t = true
    · rw [if_pos hb, if_pos hb]; exact nilG_le 6
    · rw [if_neg hb, if_neg hb]
      by_cases hw : ws.length = 0
      · rw [if_pos hw, if_pos hw]
        by_cases h0 : (t == 0) = true
        · rw [if_pos h0, if_pos h0]; exact outG_le _
        · rw [if_neg h0, if_neg h0]
          by_cases h1 : (t == 1) = true
          · rw [if_pos h1, if_pos h1]; exact outG_le _
          · rw [if_neg h1, if_neg h1]; exact outG_le _
      · rw [if_neg hw, if_neg hw]
        cases hd : doS (l.getD i.toNat default).kids ws t n with
        | error e =>
          have e1 : doE (l.getD i.toNat default).kids ws t n = e := by unfold doE; rw [hd]; rfl
          have e2 : doL (l.getD i.toNat default).kids ws t n = [] := by unfold doL; rw [hd]; rfl
          rw [if_neg (by rw [e1]; exact doS_err hd), e1, e2]
          exact .refl _
        | ok k =>
          have e1 : doE (l.getD i.toNat default).kids ws t n = 0 := by unfold doE; rw [hd]; rfl
          have e2 : doL (l.getD i.toNat default).kids ws t n = k := by unfold doL; rw [hd]; rfl
          rw [if_pos e1, e2]
          exact outG_le _
end Go.Proofs.Ytmkjjopflncedaa.AX
end
section
namespace Go.Proofs.Ytmkjjopflncedaa.AX
open Go AXP
set_option maxRecDepth 100000
theorem do_lt : ∀ k, Holds 82 (conDoLt k)
  | 0 => by
    intro args hp ans hc
    unfold conDoLt at hc
    split at hc
    · simp only [Option.bind_eq_some_iff] at hc
      obtain ⟨a, hx, b, hy, c, hz, hc⟩ := hc
      injection hc with hc
      subst hc
      intro F I w vals _ _ hpre
      exact absurd (hpre _ rfl).1 (Nat.not_lt_zero _)
    · cases hc
  | k + 1 => by
    intro args hp ans hc
    unfold conDoLt at hc
    split at hc
    case h_2 => cases hc
    rename_i x y t n1 n2 n3 n4 n5 n6
    simp only [Option.bind_eq_some_iff] at hc
    obtain ⟨l, hx, way, hy, n, hz, hc⟩ := hc
    injection hc with hc
    subst hc
    rcases (show ∃ w : List Int, w = way from ⟨_, rfl⟩) with ⟨way, rfl⟩
    rcases (show ∃ w : List Nd, w = l from ⟨_, rfl⟩) with ⟨l, rfl⟩
    refine Meets.weaken (args' := [.row .node l, .row .int way, .agg (.int .i64 t :: nodeL n)]) (.cons (rowOf_le hx) (.cons (rowOf_le hy) (.cons ?_ .nil))) ?_
    · intro w O I v hv
      obtain ⟨cs, h1, h2⟩ := hv
      refine ⟨cs, h1, ?_⟩
      cases h2 with | cons a b => exact .cons a (toNd_R b hz)
    refine Meets.res_to (ans := { pre := some (way.length < k + 1 ∧ wtNds l + wtNd n ≤ wtMx), res := .agg (doForm l t n way) }) rfl (fun _ h => nomatch h) (fun _ h => nomatch h) (doForm_le l way t n) ?_
    refine fun_meets0C (AllH.tok (.cons (do_lt k) (by kernel_rfl) .nil)) coldDo [] (by kernel_rfl) (by kernel_rfl) fun hpre => Eq.mpr (vcDoF k l way t n _) ?_
    have hk : way.length < k + 1 := (hpre _ rfl).1
    have hw : wtNds l + wtNd n ≤ wtMx := (hpre _ rfl).2
    have hln : l.length ≤ maxSl := by have := wt_len l; unfold wtMx at hw; unfold maxSl; omega
    have h96 : (l.length + 2) * 96 ≤ maxSl := by have := wt_len l; unfold wtMx at hw; unfold maxSl; omega
    cases way with
    | nil => exact ⟨fun _ => ⟨fun _ => qfin rfl rfl rfl rfl, fun h => absurd h (by decide)⟩⟩
    | cons i ws =>
      have hr : rd .int (i :: ws) 0 = i := rd_int (a := i :: ws) (i := 0) (by simp)
      have fin : ∀ xs, doForm l t n (i :: ws) = xs → FinQ { pre := some ((i :: ws).length < k + 1 ∧ wtNds l + wtNd n ≤ wtMx), res := .agg (doForm l t n (i :: ws)) } [.agg xs] [] [] := fun xs h => qfin rfl (by show _ = [AV.agg (doForm l t n (i :: ws))]; rw [h]) rfl rfl
      have e0 : List.drop (Int.toNat 1) (i :: ws) = ws := rfl
      have e1 : ∀ m : Nat, List.drop (Int.toNat 0) (List.take m l) = l.take m := fun m => rfl
      have hwl : (((i :: ws).length : Nat) : Int) = (ws.length : Int) + 1 := by simp
      rw [hr]
      simp only [e0, e1, nd_eta, Int.toNat_natCast, List.take_length]
      simp only [hwl]
      refine ⟨fun hm => ⟨fun h => ?_, fun _ => ⟨⟨by omega, by omega⟩, ⟨fun h1 => fin _ ?b1, fun h1 => ⟨fun h2 => ⟨fun _ => fin _ ?b2⟩, fun h2 => ⟨fun h3 => ⟨fun h4 => ⟨fun _ => ⟨fun _ => ⟨fun _ => fin _ ?b3⟩⟩⟩, fun h4 => ⟨fun _ => ⟨fun _ => ⟨fun _ => ⟨fun h5 => fin _ ?b4, fun h5 => ?t1⟩⟩⟩⟩⟩, fun h3 => ⟨fun _ => ⟨fun _ => ?t2⟩⟩⟩⟩⟩⟩⟩⟩
      case b1 =>
        have h1 : i < 0 := of_decide_eq_true h1
        rw [do_cons, if_pos]; · rfl
        simp [doBad, h1]
      case b2 =>
        have h2 : i > (l.length : Int) := of_decide_eq_true h2
        rw [do_cons, if_pos]; · rfl
        simp [doBad, h2]
      case b3 =>
        have h4 : (ws.length : Int) + 1 > 1 := of_decide_eq_true h4
        rw [do_cons, if_pos]; · rfl
        unfold doBad
        rw [h3, decide_eq_true h4]; simp
      case b4 =>
        rw [do_cons, if_pos]; · rfl
        unfold doBad
        rw [h3, h5]; simp
      · have h : (ws.length : Int) + 1 = 0 := by simpa using h
        omega
      all_goals
        have h1 : ¬ i < 0 := of_decide_eq_false h1
        have h2 : ¬ i > (l.length : Int) := of_decide_eq_false h2
        have hbad : doBad l i ws t = false := by
          unfold doBad
          rw [decide_eq_false h1, decide_eq_false h2]
          first
            | rw [h3]; rfl
            | (rw [h3, h4, h5]; rfl)
        have ht : (l.take i.toNat).length = i.toNat := by rw [List.length_take]; omega
        have hlt : (ws.length : Int) + 1 > 1 → i < (l.length : Int) := fun hg => by
          first
            | (have h3 : ¬ i = (l.length : Int) := by simpa using h3
               omega)
            | (have h4 : ¬ (ws.length : Int) + 1 > 1 := of_decide_eq_false h4
               exact absurd hg h4)
        have hlt1 : (t == 1) = false → i < (l.length : Int) := fun hg => by
          first
            | (have h3 : ¬ i = (l.length : Int) := by simpa using h3
               omega)
            | (have h5 : t = 1 := by simpa using h5
               rw [h5] at hg; cases hg)
        have p1 : (0 : Int) ≤ i := by omega
        have p2 : i ≤ (l.length : Int) := by omega
        have hf : ∀ b : Bool, b = false → ¬ b = true := fun b h => by rw [h]; decide
        refine ⟨⟨Int.le_refl _, p1, p2⟩, ⟨by rw [ht]; omega, ⟨fun _ => ⟨fun g1 => ?_, fun g1 => ?_⟩⟩⟩⟩
        · have g1 : (ws.length : Int) + 1 > 1 := of_decide_eq_true g1
          have hi := hlt g1
          have hin : inB l i = true := by simp only [inB, Bool.and_eq_true, decide_eq_true_eq]; omega
          obtain ⟨z1, z2⟩ := getD_of hin
          have hrd : rd .node l i = l.getD i.toNat default := by rw [z2]; exact rd_eq (t := .node) z1
          have hwk := wt_getD hin
          rw [wtNd_eq] at hwk
          have hwr : IntKind.i64.wrap (i + 1) = i + 1 := by unfold maxSl at hln; rw [wrap_id'] <;> omega
          have hw0 : ¬ ws.length = 0 := by omega
          rw [hrd, hwr]
          refine ⟨⟨p1, hi⟩, ⟨⟨by omega, by omega, by omega⟩, ⟨⟨by simp only [List.length_cons] at hk; omega, by omega⟩, ⟨fun g2 => fin _ ?_, fun g2 => ⟨⟨p1, hi⟩, ⟨by simp only [List.length_append, ht, List.length_cons, List.length_nil]; omega, ⟨⟨Int.le_add_one p1, Int.add_one_le_of_lt hi, Int.le_refl _⟩, ⟨by simp only [List.length_append, ht, List.length_cons, List.length_nil, List.length_drop]; omega, fin _ ?_⟩⟩⟩⟩⟩⟩⟩⟩
          · have g2 : ¬ doE (l.getD i.toNat default).kids ws t n = 0 := by simpa using g2
            rw [do_cons, if_neg (hf _ hbad), if_neg hw0, if_neg g2]; rfl
          · have g2 : doE (l.getD i.toNat default).kids ws t n = 0 := by simpa using g2
            rw [do_cons, if_neg (hf _ hbad), if_neg hw0, if_pos g2, show (i + 1).toNat = i.toNat + 1 by omega]; rfl
        · have g1 : ¬ (ws.length : Int) + 1 > 1 := of_decide_eq_false g1
          have hw0 : ws.length = 0 := by omega
          have hwr : IntKind.i64.wrap (i + 1) = i + 1 := by unfold maxSl at hln; rw [wrap_id'] <;> omega
          rw [hwr, show (i + 1).toNat = i.toNat + 1 by omega]
          refine ⟨fun g3 => ?_, fun g3 => ⟨fun g4 => ?_, fun g4 => ?_⟩⟩
          · have hi := hlt1 (by have g3 : t = 0 := by simpa using g3
                                rw [g3]; rfl)
            refine ⟨by simp only [ht, List.length_cons, List.length_nil]; omega, ⟨⟨Int.le_add_one p1, Int.add_one_le_of_lt hi, Int.le_refl _⟩, ⟨by simp only [List.length_append, ht, List.length_cons, List.length_nil, List.length_drop]; omega, fin _ ?_⟩⟩⟩
            rw [do_cons, if_neg (hf _ hbad), if_pos hw0, if_pos g3]; rfl
          · refine ⟨by simp only [ht, List.length_cons, List.length_nil]; omega, ⟨⟨p1, p2, Int.le_refl _⟩, ⟨by simp only [List.length_append, ht, List.length_cons, List.length_nil, List.length_drop]; omega, fin _ ?_⟩⟩⟩
            rw [do_cons, if_neg (hf _ hbad), if_pos hw0, if_neg (hf _ g3), if_pos g4]; rfl
          · have hi := hlt1 g4
            refine ⟨⟨Int.le_add_one p1, Int.add_one_le_of_lt hi, Int.le_refl _⟩, ⟨by simp only [ht, List.length_drop]; omega, fin _ ?_⟩⟩
            rw [do_cons, if_neg (hf _ hbad), if_pos hw0, if_neg (hf _ g3), if_neg (hf _ g4)]; rfl
def conDo : Con := fun args hp => match args, hp with
  | [x, y, .agg [.int .i64 t, n1, n2, n3, n4, n5, n6]], [] => (rowOf .node x).bind fun l => (rowOf .int y).bind fun way => (toNd [n1, n2, n3, n4, n5, n6]).bind fun n => some { pre := some (wtNds l + wtNd n ≤ wtMx), res := .agg (gotL (doL l way t n) default (doE l way t n)) }
  | _, _ => none
theorem do_holds : Holds 82 conDo := by
  intro args hp ans hc
  unfold conDo at hc
  split at hc
  case h_2 => cases hc
  rename_i x y t n1 n2 n3 n4 n5 n6
  simp only [Option.bind_eq_some_iff] at hc
  obtain ⟨l, hx, way, hy, n, hz, hc⟩ := hc
  injection hc with hc
  subst hc
  intro F I w vals hH hv hpre
  refine do_lt (way.length + 1) [x, y, .agg [.int .i64 t, n1, n2, n3, n4, n5, n6]] [] { pre := some (way.length < way.length + 1 ∧ wtNds l + wtNd n ≤ wtMx), res := .agg (gotL (doL l way t n) default (doE l way t n)) } (by simp only [conDoLt, hx, hy, hz, Option.bind_some]) F I w vals hH hv fun p hp => ?_
  injection hp with hp
  subst hp
  exact ⟨Nat.lt_succ_self _, hpre _ rfl⟩
end Go.Proofs.Ytmkjjopflncedaa.AX
end
section
namespace Go.Proofs.Ytmkjjopflncedaa.AXP
open Go Go.Proofs.Ytmkjjopflncedaa.AX
/-- Where a script stops. -/
def stopS : List Nd → List Ed → List Nd
  | l, [] => l
  | l, x :: s => match stepEd l x with
    | .error _ => l
    | .ok l' => stopS l' s
end Go.Proofs.Ytmkjjopflncedaa.AXP
namespace Go.Proofs.Ytmkjjopflncedaa.AX
open Go AXP
/-- How nodes, a node, an error are wanted. -/
def gotW : List Want := [.row .node, .as, .as, .as, .row .attr, .as, .row .node, .as]
noncomputable def cxGOne : Cx := cxT (tabLook [(82, conDo), (83, conGAt), (38, conNode'), (57, conAts)])
def conGOne : Con := conP [.row .node, .agg .redit] fun (l : List Nd) (x : Ed) => { pre := some (2 * wtNds l + wtEd x ≤ wtMx), res := .agg (gotL (stepL l x) default (stepE l x)) }
noncomputable def cxGApply : Cx := cxT (tabLook [(62, conGOne)])
def lsGApply : LS where
  keep := [(4, .as), (5, .row .node), (10, .as), (11, .as), (12, .as)]
  left := [(4, .as), (5, .row .node)]
  sum := fun vs bs K => match vs, bs with
    | [.ptr 0 0, .row .node l, .row .redit s, .int .i64 m, .int .i64 i], [.box [.nil, .int .i64 0, .int .i64 0, .str t1, .nil, .str t2, .nil, .int .i64 0]] => Rq (m = s.length ∧ i = 0 ∧ s.length ≤ maxSl ∧ 2 * (wtNds l + wtEds s) ≤ wtMx)
      (Br (applyOk l s) (K (.exit 0) [.ptr 0 0, .row .node (applyL l s)] [.box [.nil, .int .i64 0, .int .i64 0, .str t1, .nil, .str t2, .nil, .int .i64 0]]) (K .ret [.ptr 0 0, .row .node (stopS l s)] [.box (nilG (applyE l s))]))
    | _, _ => False
def conGApply : Con := conP [.row .node, .row .redit] fun (l : List Nd) (s : List Ed) => { pre := some (2 * (wtNds l + wtEds s) ≤ wtMx), res := .agg (gotL (applyL l s) default (applyE l s)) }
noncomputable def cxGSteps : Cx := cxT (tabLook [(37, conGApply)])
def lsGSteps : LS where
  keep := [(4, .as), (5, .as), (6, .own .page), (13, .as), (14, .as), (15, .as)]
  left := [(4, .as), (5, .as), (6, .own .page)]
  sum := fun vs bs K => match vs, bs with
    | [.nil, .int .i64 e, .own 0 0, .row .redit s, .int .i64 m, .int .i64 i], [.rowb 0 .page out] => Rq (m = s.length ∧ i = 0 ∧ s.length ≤ maxSl ∧ out ≠ [] ∧ 2 * (wtNds (out.getLastD []) + wtEds s) ≤ wtMx ∧ (out.length + s.length) * 24 ≤ maxSl)
      (Br (applyOk (out.getLastD []) s) (K (.exit 0) [.nil, .int .i64 e, .own 0 0] [.rowb 0 .page (out ++ pagesL (out.getLastD []) s)]) (K .ret [.nil, .int .i64 (applyE (out.getLastD []) s), .own 0 0] [.rowb 0 .page (out ++ pagesL (out.getLastD []) s)]))
    | _, _ => False
def conGSteps : Con := conP [.row .node, .row .redit] fun (l : List Nd) (s : List Ed) => { pre := some (2 * (wtNds l + wtEds s) ≤ wtMx), res := .tup [.row .page (stepsR l s), .int .i64 (applyE l s)] }
def lsRef : LS where
  keep := [(3, .own .redit), (6, .as), (7, .as), (8, .as)]
  left := [(3, .own .redit)]
  sum := fun vs bs K => match vs, bs with
    | [.own 0 0, .row .edit s, .int .i64 m, .int .i64 i], [.rowb 0 .redit l] => Rq (m = s.length ∧ i = 0 ∧ l.length = 0 ∧ s.length * 224 ≤ maxSl) (K (.exit 0) [.own 0 0] [.rowb 0 .redit s])
    | _, _ => False
def conRef : Con := conP [.row .edit] fun (s : List Ed) => { pre := some (s.length * 224 ≤ maxSl), res := .row .redit s }
noncomputable def cxLawSteps : Cx := cxT (tabLook [(13, conLg), (14, conLo 50), (16, conSteps), (18, conRef), (17, conGSteps), (19, conNodes), (15, conNone22)])
/-- Are all pages the same? -/
def samePg (a b : List (List Nd)) : Bool := eql (eql eqNd) a b
def lsLawSteps : LS where
  keep := [(5, .row .nodes), (7, .as), (41, .as), (42, .as)]
  left := []
  sum := fun vs bs K => match vs, bs with
    | [.row .nodes a, .row .page b, .int .i64 m, .int .i64 i], [] => Rq (m = a.length ∧ i = 0 ∧ b = a ∧ a.length ≤ maxSl) (K (.exit 0) [] [])
    | _, _ => False
end Go.Proofs.Ytmkjjopflncedaa.AX
end
section
namespace Go.Proofs.Ytmkjjopflncedaa.AX
open Go AXP
set_option maxRecDepth 100000
theorem vcGOneF (l : List Nd) (x : Ed) (Q : List AV → List Blk → List Blk → Prop) : (funA cxGOne (LL Try.f62 []) Try.f62 [.row .node l, .agg (editL x)] [] gotW Q) = (
Br (decide (x.1 < (1 : Int)))
  (Q
    [AV.agg
        [AV.row Ty.node [], AV.int IntKind.i64 (0 : Int), AV.int IntKind.i64 (0 : Int),
          AV.str (ByteArray.mk (Array.mk [])), AV.row Ty.attr [], AV.str (ByteArray.mk (Array.mk [])),
          AV.row Ty.node [], AV.int IntKind.i64 (4 : Int)]]
    [] [])
  (Br (decide (x.1 > (4 : Int)))
    (Q
      [AV.agg
          [AV.row Ty.node [], AV.int IntKind.i64 (0 : Int), AV.int IntKind.i64 (0 : Int),
            AV.str (ByteArray.mk (Array.mk [])), AV.row Ty.attr [], AV.str (ByteArray.mk (Array.mk [])),
            AV.row Ty.node [], AV.int IntKind.i64 (4 : Int)]]
      [] [])
    (Br (x.1 == (1 : Int))
      (Rq (wtNds l + wtNd (Nd.mk x.4.1 x.4.2 x.4.3 x.4.4 x.4.5 x.4.6) ≤ wtMx)
        (Br (doE l x.2 (1 : Int) (Nd.mk x.4.1 x.4.2 x.4.3 x.4.4 x.4.5 x.4.6) != (0 : Int))
          (Q
            [AV.agg
                [AV.row Ty.node [], AV.int IntKind.i64 (0 : Int), AV.int IntKind.i64 (0 : Int),
                  AV.str (ByteArray.mk (Array.mk [])), AV.row Ty.attr [], AV.str (ByteArray.mk (Array.mk [])),
                  AV.row Ty.node [], AV.int IntKind.i64 (6 : Int)]]
            [] [])
          (Q
            [AV.agg
                [AV.row Ty.node (doL l x.2 (1 : Int) (Nd.mk x.4.1 x.4.2 x.4.3 x.4.4 x.4.5 x.4.6)),
                  AV.int IntKind.i64 (0 : Int), AV.int IntKind.i64 (0 : Int), AV.str (ByteArray.mk (Array.mk [])),
                  AV.row Ty.attr [], AV.str (ByteArray.mk (Array.mk [])), AV.row Ty.node [],
                  AV.int IntKind.i64 (doE l x.2 (1 : Int) (Nd.mk x.4.1 x.4.2 x.4.3 x.4.4 x.4.5 x.4.6))]]
            [] [])))
      (Br (atErr l x.2 != (0 : Int))
        (Q
          [AV.agg
              [AV.row Ty.node [], AV.int IntKind.i64 (0 : Int), AV.int IntKind.i64 (0 : Int),
                AV.str (ByteArray.mk (Array.mk [])), AV.row Ty.attr [], AV.str (ByteArray.mk (Array.mk [])),
                AV.row Ty.node [], AV.int IntKind.i64 (6 : Int)]]
          [] [])
        (Br (x.1 == (2 : Int))
          (Br
            (!eqNd (Nd.mk (atN l x.2).1 (atN l x.2).2 (atN l x.2).3 (atN l x.2).4 (atN l x.2).5 (atN l x.2).6)
                (Nd.mk x.3.1 x.3.2 x.3.3 x.3.4 x.3.5 x.3.6))
            (Q
              [AV.agg
                  [AV.row Ty.node [], AV.int IntKind.i64 (0 : Int), AV.int IntKind.i64 (0 : Int),
                    AV.str (ByteArray.mk (Array.mk [])), AV.row Ty.attr [], AV.str (ByteArray.mk (Array.mk [])),
                    AV.row Ty.node [], AV.int IntKind.i64 (7 : Int)]]
              [] [])
            (Rq
              (wtNds l +
                  wtNd (Nd.mk (0 : Int) (0 : Int) (ByteArray.mk (Array.mk [])) [] (ByteArray.mk (Array.mk [])) []) ≤
                wtMx)
              (Q
                [AV.agg
                    [AV.row Ty.node
                        (doL l x.2 (2 : Int)
                          (Nd.mk (0 : Int) (0 : Int) (ByteArray.mk (Array.mk [])) [] (ByteArray.mk (Array.mk [])) [])),
                      AV.int IntKind.i64 (0 : Int), AV.int IntKind.i64 (0 : Int), AV.str (ByteArray.mk (Array.mk [])),
                      AV.row Ty.attr [], AV.str (ByteArray.mk (Array.mk [])), AV.row Ty.node [],
                      AV.int IntKind.i64
                        (doE l x.2 (2 : Int)
                          (Nd.mk (0 : Int) (0 : Int) (ByteArray.mk (Array.mk [])) [] (ByteArray.mk (Array.mk [])) []))]]
                [] [])))
          (Br (x.1 == (3 : Int))
            (Br (!eql eqAt (atN l x.2).4 x.3.4)
              (Q
                [AV.agg
                    [AV.row Ty.node [], AV.int IntKind.i64 (0 : Int), AV.int IntKind.i64 (0 : Int),
                      AV.str (ByteArray.mk (Array.mk [])), AV.row Ty.attr [], AV.str (ByteArray.mk (Array.mk [])),
                      AV.row Ty.node [], AV.int IntKind.i64 (7 : Int)]]
                [] [])
              (Rq
                (wtNds l + wtNd (Nd.mk (atN l x.2).1 (atN l x.2).2 (atN l x.2).3 x.4.4 (atN l x.2).5 (atN l x.2).6) ≤
                  wtMx)
                (Q
                  [AV.agg
                      [AV.row Ty.node
                          (doL l x.2 (0 : Int)
                            (Nd.mk (atN l x.2).1 (atN l x.2).2 (atN l x.2).3 x.4.4 (atN l x.2).5 (atN l x.2).6)),
                        AV.int IntKind.i64 (0 : Int), AV.int IntKind.i64 (0 : Int), AV.str (ByteArray.mk (Array.mk [])),
                        AV.row Ty.attr [], AV.str (ByteArray.mk (Array.mk [])), AV.row Ty.node [],
                        AV.int IntKind.i64
                          (doE l x.2 (0 : Int)
                            (Nd.mk (atN l x.2).1 (atN l x.2).2 (atN l x.2).3 x.4.4 (atN l x.2).5 (atN l x.2).6))]]
                  [] [])))
            (Br (x.1 == (4 : Int))
              (Br (!eqS (atN l x.2).5 x.3.5)
                (Q
                  [AV.agg
                      [AV.row Ty.node [], AV.int IntKind.i64 (0 : Int), AV.int IntKind.i64 (0 : Int),
                        AV.str (ByteArray.mk (Array.mk [])), AV.row Ty.attr [], AV.str (ByteArray.mk (Array.mk [])),
                        AV.row Ty.node [], AV.int IntKind.i64 (7 : Int)]]
                  [] [])
                (Rq
                  (wtNds l + wtNd (Nd.mk (atN l x.2).1 (atN l x.2).2 (atN l x.2).3 (atN l x.2).4 x.4.5 (atN l x.2).6) ≤
                    wtMx)
                  (Q
                    [AV.agg
                        [AV.row Ty.node
                            (doL l x.2 (0 : Int)
                              (Nd.mk (atN l x.2).1 (atN l x.2).2 (atN l x.2).3 (atN l x.2).4 x.4.5 (atN l x.2).6)),
                          AV.int IntKind.i64 (0 : Int), AV.int IntKind.i64 (0 : Int),
                          AV.str (ByteArray.mk (Array.mk [])), AV.row Ty.attr [], AV.str (ByteArray.mk (Array.mk [])),
                          AV.row Ty.node [],
                          AV.int IntKind.i64
                            (doE l x.2 (0 : Int)
                              (Nd.mk (atN l x.2).1 (atN l x.2).2 (atN l x.2).3 (atN l x.2).4 x.4.5 (atN l x.2).6))]]
                    [] [])))
              (Q
                [AV.agg
                    [AV.row Ty.node [], AV.int IntKind.i64 (0 : Int), AV.int IntKind.i64 (0 : Int),
                      AV.str (ByteArray.mk (Array.mk [])), AV.row Ty.attr [], AV.str (ByteArray.mk (Array.mk [])),
                      AV.row Ty.node [], AV.int IntKind.i64 (7 : Int)]]
                [] [])))))))) := by kernel_rfl
theorem vcGApplyB (l : List Nd) (s : List Ed) (t1 t2 : ByteArray) (m i : Int) (K : Ex → List AV → List Blk → Prop) : (bodyA cxGApply (LL Try.f37 [lsGApply]) Try.f37.ntmps (loopAt Try.f37 0).1 (loopAt Try.f37 0).2 lsGApply.keep lsGApply.left K [.ptr 0 0, .row .node l, .row .redit s, .int .i64 m, .int .i64 i] [.box [.nil, .int .i64 0, .int .i64 0, .str t1, .nil, .str t2, .nil, .int .i64 0]]) = (
Br (decide (i < m))
  (Rq ((0 : Int) ≤ i ∧ i < (↑s.length : Int))
    (Rq
      ((2 : Nat) * wtNds l +
          wtEd
            (Ed.mk (rd Ty.redit s i).1 (rd Ty.redit s i).2
              (Nd.mk (rd Ty.redit s i).3.1 (rd Ty.redit s i).3.2 (rd Ty.redit s i).3.3 (rd Ty.redit s i).3.4
                (rd Ty.redit s i).3.5 (rd Ty.redit s i).3.6)
              (Nd.mk (rd Ty.redit s i).4.1 (rd Ty.redit s i).4.2 (rd Ty.redit s i).4.3 (rd Ty.redit s i).4.4
                (rd Ty.redit s i).4.5 (rd Ty.redit s i).4.6)) ≤
        wtMx)
      (Br
        (stepE l
            (Ed.mk (rd Ty.redit s i).1 (rd Ty.redit s i).2
              (Nd.mk (rd Ty.redit s i).3.1 (rd Ty.redit s i).3.2 (rd Ty.redit s i).3.3 (rd Ty.redit s i).3.4
                (rd Ty.redit s i).3.5 (rd Ty.redit s i).3.6)
              (Nd.mk (rd Ty.redit s i).4.1 (rd Ty.redit s i).4.2 (rd Ty.redit s i).4.3 (rd Ty.redit s i).4.4
                (rd Ty.redit s i).4.5 (rd Ty.redit s i).4.6)) !=
          (0 : Int))
        (K Ex.ret [AV.ptr (0 : Nat) (0 : Nat), AV.row Ty.node l]
          [Blk.box
              [AV.nil, AV.int IntKind.i64 (0 : Int), AV.int IntKind.i64 (0 : Int), AV.str (ByteArray.mk (Array.mk [])),
                AV.nil, AV.str (ByteArray.mk (Array.mk [])), AV.nil,
                AV.int IntKind.i64
                  (stepE l
                    (Ed.mk (rd Ty.redit s i).1 (rd Ty.redit s i).2
                      (Nd.mk (rd Ty.redit s i).3.1 (rd Ty.redit s i).3.2 (rd Ty.redit s i).3.3 (rd Ty.redit s i).3.4
                        (rd Ty.redit s i).3.5 (rd Ty.redit s i).3.6)
                      (Nd.mk (rd Ty.redit s i).4.1 (rd Ty.redit s i).4.2 (rd Ty.redit s i).4.3 (rd Ty.redit s i).4.4
                        (rd Ty.redit s i).4.5 (rd Ty.redit s i).4.6)))]])
        (K Ex.norm
          [AV.ptr (0 : Nat) (0 : Nat),
            AV.row Ty.node
              (stepL l
                (Ed.mk (rd Ty.redit s i).1 (rd Ty.redit s i).2
                  (Nd.mk (rd Ty.redit s i).3.1 (rd Ty.redit s i).3.2 (rd Ty.redit s i).3.3 (rd Ty.redit s i).3.4
                    (rd Ty.redit s i).3.5 (rd Ty.redit s i).3.6)
                  (Nd.mk (rd Ty.redit s i).4.1 (rd Ty.redit s i).4.2 (rd Ty.redit s i).4.3 (rd Ty.redit s i).4.4
                    (rd Ty.redit s i).4.5 (rd Ty.redit s i).4.6))),
            AV.row Ty.redit s, AV.int IntKind.i64 m, AV.int IntKind.i64 (IntKind.i64.wrap (i + (1 : Int)))]
          [Blk.box
              [AV.nil, AV.int IntKind.i64 (0 : Int), AV.int IntKind.i64 (0 : Int), AV.str t1, AV.nil, AV.str t2, AV.nil,
                AV.int IntKind.i64 (0 : Int)]]))))
  (K (Ex.exit (0 : Nat)) [AV.ptr (0 : Nat) (0 : Nat), AV.row Ty.node l]
    [Blk.box
        [AV.nil, AV.int IntKind.i64 (0 : Int), AV.int IntKind.i64 (0 : Int), AV.str t1, AV.nil, AV.str t2, AV.nil,
          AV.int IntKind.i64 (0 : Int)]])) := by kernel_rfl
theorem vcGApplyF (l : List Nd) (s : List Ed) (Q : List AV → List Blk → List Blk → Prop) : (funA cxGApply (LL Try.f37 [lsGApply]) Try.f37 [.row .node l, .row .redit s] [] gotW Q) = (
Gv (s.length ≤ maxSl)
  (Rq
    ((↑s.length : Int) = (↑s.length : Int) ∧
      (0 : Int) = (0 : Int) ∧ s.length ≤ maxSl ∧ (2 : Nat) * (wtNds l + wtEds s) ≤ wtMx)
    (Br (applyOk l s)
      (Q
        [AV.agg
            [AV.row Ty.node (applyL l s), AV.int IntKind.i64 (0 : Int), AV.int IntKind.i64 (0 : Int),
              AV.str (ByteArray.mk (Array.mk [])), AV.row Ty.attr [], AV.str (ByteArray.mk (Array.mk [])),
              AV.row Ty.node [], AV.int IntKind.i64 (0 : Int)]]
        [] [])
      (Q
        [AV.agg
            [AV.row Ty.node [], AV.int IntKind.i64 (0 : Int), AV.int IntKind.i64 (0 : Int),
              AV.str (ByteArray.mk (Array.mk [])), AV.row Ty.attr [], AV.str (ByteArray.mk (Array.mk [])),
              AV.row Ty.node [], AV.int IntKind.i64 (applyE l s)]]
        [] [])))) := by kernel_rfl
theorem vcGStepsB (out : List (List Nd)) (s : List Ed) (e m i : Int) (K : Ex → List AV → List Blk → Prop) : (bodyA cxGSteps (LL Try.f17 [lsGSteps]) Try.f17.ntmps (loopAt Try.f17 0).1 (loopAt Try.f17 0).2 lsGSteps.keep lsGSteps.left K [.nil, .int .i64 e, .own 0 0, .row .redit s, .int .i64 m, .int .i64 i] [.rowb 0 .page out]) = (
Br (decide (i < m))
  (Rq ((0 : Int) ≤ i ∧ i < (↑s.length : Int))
    (Rq
      ((0 : Int) ≤ IntKind.i64.wrap ((↑out.length : Int) - (1 : Int)) ∧
        IntKind.i64.wrap ((↑out.length : Int) - (1 : Int)) < (↑out.length : Int))
      (Rq
        ((2 : Nat) *
            (wtNds (rd Ty.page out (IntKind.i64.wrap ((↑out.length : Int) - (1 : Int)))) +
              wtEds
                [Ed.mk (rd Ty.redit s i).1 (rd Ty.redit s i).2
                    (Nd.mk (rd Ty.redit s i).3.1 (rd Ty.redit s i).3.2 (rd Ty.redit s i).3.3 (rd Ty.redit s i).3.4
                      (rd Ty.redit s i).3.5 (rd Ty.redit s i).3.6)
                    (Nd.mk (rd Ty.redit s i).4.1 (rd Ty.redit s i).4.2 (rd Ty.redit s i).4.3 (rd Ty.redit s i).4.4
                      (rd Ty.redit s i).4.5 (rd Ty.redit s i).4.6)]) ≤
          wtMx)
        (Gv (out.length ≤ maxSl)
          (Br
            (applyE (rd Ty.page out (IntKind.i64.wrap ((↑out.length : Int) - (1 : Int))))
                [Ed.mk (rd Ty.redit s i).1 (rd Ty.redit s i).2
                    (Nd.mk (rd Ty.redit s i).3.1 (rd Ty.redit s i).3.2 (rd Ty.redit s i).3.3 (rd Ty.redit s i).3.4
                      (rd Ty.redit s i).3.5 (rd Ty.redit s i).3.6)
                    (Nd.mk (rd Ty.redit s i).4.1 (rd Ty.redit s i).4.2 (rd Ty.redit s i).4.3 (rd Ty.redit s i).4.4
                      (rd Ty.redit s i).4.5 (rd Ty.redit s i).4.6)] !=
              (0 : Int))
            (K Ex.ret
              [AV.nil,
                AV.int IntKind.i64
                  (applyE (rd Ty.page out (IntKind.i64.wrap ((↑out.length : Int) - (1 : Int))))
                    [Ed.mk (rd Ty.redit s i).1 (rd Ty.redit s i).2
                        (Nd.mk (rd Ty.redit s i).3.1 (rd Ty.redit s i).3.2 (rd Ty.redit s i).3.3 (rd Ty.redit s i).3.4
                          (rd Ty.redit s i).3.5 (rd Ty.redit s i).3.6)
                        (Nd.mk (rd Ty.redit s i).4.1 (rd Ty.redit s i).4.2 (rd Ty.redit s i).4.3 (rd Ty.redit s i).4.4
                          (rd Ty.redit s i).4.5 (rd Ty.redit s i).4.6)]),
                AV.own (0 : Nat) (0 : Nat)]
              [Blk.rowb (0 : Nat) Ty.page out])
            (Rq
              ((out.length +
                    [applyL (rd Ty.page out (IntKind.i64.wrap ((↑out.length : Int) - (1 : Int))))
                          [Ed.mk (rd Ty.redit s i).1 (rd Ty.redit s i).2
                              (Nd.mk (rd Ty.redit s i).3.1 (rd Ty.redit s i).3.2 (rd Ty.redit s i).3.3
                                (rd Ty.redit s i).3.4 (rd Ty.redit s i).3.5 (rd Ty.redit s i).3.6)
                              (Nd.mk (rd Ty.redit s i).4.1 (rd Ty.redit s i).4.2 (rd Ty.redit s i).4.3
                                (rd Ty.redit s i).4.4 (rd Ty.redit s i).4.5 (rd Ty.redit s i).4.6)]].length) *
                  (24 : Nat) ≤
                maxSl)
              (K Ex.norm
                [AV.nil, AV.int IntKind.i64 e, AV.own (0 : Nat) (0 : Nat), AV.row Ty.redit s, AV.int IntKind.i64 m,
                  AV.int IntKind.i64 (IntKind.i64.wrap (i + (1 : Int)))]
                [Blk.rowb (0 : Nat) Ty.page
                    (out ++
                      [applyL (rd Ty.page out (IntKind.i64.wrap ((↑out.length : Int) - (1 : Int))))
                          [Ed.mk (rd Ty.redit s i).1 (rd Ty.redit s i).2
                              (Nd.mk (rd Ty.redit s i).3.1 (rd Ty.redit s i).3.2 (rd Ty.redit s i).3.3
                                (rd Ty.redit s i).3.4 (rd Ty.redit s i).3.5 (rd Ty.redit s i).3.6)
                              (Nd.mk (rd Ty.redit s i).4.1 (rd Ty.redit s i).4.2 (rd Ty.redit s i).4.3
                                (rd Ty.redit s i).4.4 (rd Ty.redit s i).4.5 (rd Ty.redit s i).4.6)]])])))))))
  (K (Ex.exit (0 : Nat)) [AV.nil, AV.int IntKind.i64 e, AV.own (0 : Nat) (0 : Nat)] [Blk.rowb (0 : Nat) Ty.page out])) := by kernel_rfl
theorem vcGStepsF (l : List Nd) (s : List Ed) (Q : List AV → List Blk → List Blk → Prop) : (funA cxGSteps (LL Try.f17 [lsGSteps]) Try.f17 [.row .node l, .row .redit s] [] [.row .page, .as] Q) = (
Gv (s.length ≤ maxSl)
  (Rq
    ((↑s.length : Int) = (↑s.length : Int) ∧
      (0 : Int) = (0 : Int) ∧
        s.length ≤ maxSl ∧
          [l] ≠ [] ∧ (2 : Nat) * (wtNds l + wtEds s) ≤ wtMx ∧ ([l].length + s.length) * (24 : Nat) ≤ maxSl)
    (Br (applyOk l s) (Q [AV.row Ty.page ([l] ++ pagesL l s), AV.int IntKind.i64 (0 : Int)] [] [])
      (Q [AV.row Ty.page [], AV.int IntKind.i64 (applyE l s)] [] [])))) := by kernel_rfl
theorem vcRefB (l s : List Ed) (m i : Int) (K : Ex → List AV → List Blk → Prop) : (bodyA cx0 (LL Try.f18 [lsRef]) Try.f18.ntmps (loopAt Try.f18 0).1 (loopAt Try.f18 0).2 lsRef.keep lsRef.left K [.own 0 0, .row .edit s, .int .i64 m, .int .i64 i] [.rowb 0 .redit l]) = (
Br (decide (i < m))
  (Rq ((0 : Int) ≤ i ∧ i < (↑s.length : Int))
    (Rq
      ((l.length +
            [Ed.mk (rd Ty.edit s i).1 (rd Ty.edit s i).2
                  (Nd.mk (rd Ty.edit s i).3.1 (rd Ty.edit s i).3.2 (rd Ty.edit s i).3.3 (rd Ty.edit s i).3.4
                    (rd Ty.edit s i).3.5 (rd Ty.edit s i).3.6)
                  (Nd.mk (rd Ty.edit s i).4.1 (rd Ty.edit s i).4.2 (rd Ty.edit s i).4.3 (rd Ty.edit s i).4.4
                    (rd Ty.edit s i).4.5 (rd Ty.edit s i).4.6)].length) *
          (224 : Nat) ≤
        maxSl)
      (K Ex.norm
        [AV.own (0 : Nat) (0 : Nat), AV.row Ty.edit s, AV.int IntKind.i64 m,
          AV.int IntKind.i64 (IntKind.i64.wrap (i + (1 : Int)))]
        [Blk.rowb (0 : Nat) Ty.redit
            (l ++
              [Ed.mk (rd Ty.edit s i).1 (rd Ty.edit s i).2
                  (Nd.mk (rd Ty.edit s i).3.1 (rd Ty.edit s i).3.2 (rd Ty.edit s i).3.3 (rd Ty.edit s i).3.4
                    (rd Ty.edit s i).3.5 (rd Ty.edit s i).3.6)
                  (Nd.mk (rd Ty.edit s i).4.1 (rd Ty.edit s i).4.2 (rd Ty.edit s i).4.3 (rd Ty.edit s i).4.4
                    (rd Ty.edit s i).4.5 (rd Ty.edit s i).4.6)])])))
  (K (Ex.exit (0 : Nat)) [AV.own (0 : Nat) (0 : Nat)] [Blk.rowb (0 : Nat) Ty.redit l])) := by kernel_rfl
theorem vcRefF (s : List Ed) (Q : List AV → List Blk → List Blk → Prop) : (funA cx0 (LL Try.f18 [lsRef]) Try.f18 [.row .edit s] [] [.row .redit] Q) = (
Gv (s.length ≤ maxSl)
  (Rq
    ((↑s.length : Int) = (↑s.length : Int) ∧
      (0 : Int) = (0 : Int) ∧ (0 : Nat) = (0 : Nat) ∧ s.length * (224 : Nat) ≤ maxSl)
    (Q [AV.row Ty.redit s] [] []))) := by kernel_rfl
theorem vcLawStepsB (a b : List (List Nd)) (m i : Int) (K : Ex → List AV → List Blk → Prop) : (bodyA cxLawSteps (LL Try.f3 [lsLawSteps]) Try.f3.ntmps (loopAt Try.f3 0).1 (loopAt Try.f3 0).2 lsLawSteps.keep lsLawSteps.left K [.row .nodes a, .row .page b, .int .i64 m, .int .i64 i] []) = (
Br (decide (i < m))
  (Rq ((0 : Int) ≤ i ∧ i < (↑a.length : Int))
    (Rq ((0 : Int) ≤ i ∧ i < (↑b.length : Int))
      (Br (!eql eqNd (rd Ty.nodes a i) (rd Ty.page b i)) (K Ex.ret [] [])
        (K Ex.norm
          [AV.row Ty.nodes a, AV.row Ty.page b, AV.int IntKind.i64 m,
            AV.int IntKind.i64 (IntKind.i64.wrap (i + (1 : Int)))]
          []))))
  (K (Ex.exit (0 : Nat)) [] [])) := by kernel_rfl
theorem vcLawStepsF (l : List Nd) (s : List Ed) (Q : List AV → List Blk → List Blk → Prop) : (funA cxLawSteps (LL Try.f3 [lsLawSteps]) Try.f3 [.row .node l, .row .edit s] [] [] Q) = (
Br (largeB l) (Q [AV.bool true] [] [])
  (Br (longB (50 : Int) s) (Q [AV.bool true] [] [])
    (Rq ((2 : Nat) * (wtNds l + wtEds s) ≤ wtMx)
      (Rq (s.length * (224 : Nat) ≤ maxSl)
        (Rq ((2 : Nat) * (wtNds l + wtEds s) ≤ wtMx)
          (Br (applyE l s != applyE l s) (Q [AV.bool false] [] [])
            (Gv ((stepsR l s).length ≤ maxSl)
              (Gv ((stepsR l s).length ≤ maxSl)
                (Br ((↑(stepsR l s).length : Int) != (↑(stepsR l s).length : Int)) (Q [AV.bool false] [] [])
                  (Gv ((stepsR l s).length ≤ maxSl)
                    (Rq
                      ((↑(stepsR l s).length : Int) = (↑(stepsR l s).length : Int) ∧
                        (0 : Int) = (0 : Int) ∧ stepsR l s = stepsR l s ∧ (stepsR l s).length ≤ maxSl)
                      (Q [AV.bool true] [] [])))))))))))) := by kernel_rfl
end Go.Proofs.Ytmkjjopflncedaa.AX
end
section
namespace Go.Proofs.Ytmkjjopflncedaa.AXP
open Go Go.Proofs.Ytmkjjopflncedaa.AX
theorem stop_at : ∀ {a b : List Ed} {l l' : List Nd} {x : Ed} {e : Int}, applyS l a = .ok l' → stepEd l' x = .error e → stopS l (a ++ x :: b) = l'
  | [], b, l, l', x, e, h, h2 => by
    injection h with h; subst h
    rw [List.nil_append, stopS, h2]
  | y :: a, b, l, l', x, e, h, h2 => by
    rw [applyS] at h
    rw [List.cons_append, stopS]
    cases hy : stepEd l y with
    | error e' => rw [hy] at h; cases h
    | ok l1 =>
      rw [hy] at h
      exact stop_at h h2
theorem step_ins_cases (l : List Nd) (x : Ed) (h : (x.what == 1) = true) : (doE l x.way 1 x.new ≠ 0 ∧ stepE l x = 6 ∧ stepL l x = []) ∨ (doE l x.way 1 x.new = 0 ∧ stepE l x = 0 ∧ stepL l x = doL l x.way 1 x.new) := by
  obtain ⟨h1, h2⟩ := doE_ins l x.way x.new
  unfold stepE stepL stepEd
  rw [if_pos h]
  cases hi : insR l x.way x.new with
  | none =>
    left
    refine ⟨fun h3 => ?_, rfl, rfl⟩
    have := h1.1 h3
    rw [hi] at this; cases this
  | some r =>
    right
    have hs : (insR l x.way x.new).isSome = true := by rw [hi]; rfl
    refine ⟨h1.2 hs, rfl, ?_⟩
    rw [h2 hs, hi]; rfl
theorem step_none {l : List Nd} {x : Ed} (h1 : (x.what == 1) = false) (h2 : (x.what == 2 || x.what == 3 || x.what == 4) = true) (h : atErr l x.way ≠ 0) : stepE l x = 6 ∧ stepL l x = [] := by
  unfold stepE stepL stepEd
  rcases atErr_cases l x.way with ⟨h3, _⟩ | ⟨_, h3⟩
  · exact (h h3).elim
  · rw [if_neg (by rw [h1]; decide), if_pos h2, h3]; exact ⟨rfl, rfl⟩
theorem step_some {l : List Nd} {x : Ed} (h1 : (x.what == 1) = false) (h2 : (x.what == 2 || x.what == 3 || x.what == 4) = true) (h : atErr l x.way = 0) : atW l x.way = some (atN l x.way) ∧
    ((okAt (atN l x.way) x = false ∧ stepE l x = 7 ∧ stepL l x = []) ∨ (okAt (atN l x.way) x = true ∧ stepE l x = 0 ∧ stepL l x = (if (x.what == 2) = true then cutW l x.way else putW l x.way (chgNd (atN l x.way) x)))) := by
  obtain ⟨xs, n, _, _, _, h5, _, _⟩ := atErr_zero h
  have en : atN l x.way = n := by unfold atN; rw [h5]; rfl
  rw [en]
  refine ⟨h5, ?_⟩
  unfold stepE stepL stepEd
  rw [if_neg (by rw [h1]; decide), if_pos h2, h5]
  dsimp only
  cases okAt n x with
  | false => exact .inl ⟨rfl, rfl, rfl⟩
  | true => exact .inr ⟨rfl, rfl, rfl⟩
theorem do_at {l : List Nd} {way : List Int} {t : Int} {n m : Nd} (ht : (t == 1) = false) (h : atW l way = some m) : doE l way t n = 0 ∧ doL l way t n = (if (t == 0) = true then putW l way n else cutW l way) := by
  unfold doE doL
  rw [doS_at way l t n m ht h]; exact ⟨rfl, rfl⟩
theorem step_form {l : List Nd} {x : Ed} (h1 : (x.what == 1) = false) (h2 : (x.what == 2 || x.what == 3 || x.what == 4) = false) : stepE l x = 4 ∧ stepL l x = [] := by
  unfold stepE stepL stepEd
  rw [if_neg (by rw [h1]; decide), if_neg (by rw [h2]; decide)]; exact ⟨rfl, rfl⟩
end Go.Proofs.Ytmkjjopflncedaa.AXP
namespace Go.Proofs.Ytmkjjopflncedaa.AX
open Go AXP
set_option maxRecDepth 100000
theorem gone_holds : Holds 62 conGOne := conP_holds fun l x => by
  refine fun_meets0 (AllH.tok (.cons do_holds (by kernel_rfl) (.cons gat_holds (by kernel_rfl) (.cons node_holds (by kernel_rfl) (.cons ats_holds (by kernel_rfl) .nil))))) gotW (by kernel_rfl) (by kernel_rfl) fun hpre => Eq.mpr (vcGOneF l x _) ?_
  have hw : 2 * wtNds l + wtEd x ≤ wtMx := hpre _ rfl
  unfold wtEd at hw
  simp only [nd_eta]
  have fin : ∀ (L : List Nd) (e : Int), stepE l x = e → stepL l x = L → FinQ { pre := some (2 * wtNds l + wtEd x ≤ wtMx), res := .agg (gotL (stepL l x) default (stepE l x)) } [.agg (gotL L default e)] [] [] := fun L e h1 h2 => qfin rfl (by show _ = [AV.agg (gotL (stepL l x) default (stepE l x))]; rw [h1, h2]) rfl rfl
  have h234 : ∀ k : Int, x.what = k → k = 2 ∨ k = 3 ∨ k = 4 → (x.what == 1) = false ∧ (x.what == 2 || x.what == 3 || x.what == 4) = true := fun k hk h => by
    rw [hk]; rcases h with rfl | rfl | rfl <;> exact ⟨rfl, rfl⟩
  have hbad : (x.what < 1 ∨ 4 < x.what) → stepE l x = 4 ∧ stepL l x = [] := fun h => step_form (by simp; omega) (by simp; omega)
  have hw0 : wtNd (default : Nd) = 1 := rfl
  refine ⟨fun h => ?_, fun h0 => ⟨fun h => ?_, fun h5 => ⟨fun h1 => ?_, fun h1 => ⟨fun h => ?_, fun hat => ?_⟩⟩⟩⟩
  · obtain ⟨z1, z2⟩ := hbad (.inl (of_decide_eq_true h))
    exact fin _ _ z1 z2
  · obtain ⟨z1, z2⟩ := hbad (.inr (of_decide_eq_true h))
    exact fin _ _ z1 z2
  · refine ⟨by omega, ⟨fun h => ?_, fun h => ?_⟩⟩
    · have h : doE l x.2 1 x.4 ≠ 0 := by simpa using h
      rcases step_ins_cases l x h1 with ⟨_, z1, z2⟩ | ⟨z, _⟩
      · exact fin _ _ z1 z2
      · exact (h z).elim
    · have h : doE l x.2 1 x.4 = 0 := by simpa using h
      rcases step_ins_cases l x h1 with ⟨z, _⟩ | ⟨z, z1, z2⟩
      · exact (z h).elim
      · exact fin _ _ (z1.trans z.symm) z2
  · have hx : (x.what == 2 || x.what == 3 || x.what == 4) = true := by
      have g0 : ¬ x.what < 1 := of_decide_eq_false h0
      have g5 : ¬ x.what > 4 := of_decide_eq_false h5
      have g1 : ¬ x.what = 1 := by simpa using h1
      simp; omega
    obtain ⟨z1, z2⟩ := step_none h1 hx (show atErr l x.way ≠ 0 by simpa using h)
    exact fin _ _ z1 z2
  · have hx : (x.what == 2 || x.what == 3 || x.what == 4) = true := by
      have g0 : ¬ x.what < 1 := of_decide_eq_false h0
      have g5 : ¬ x.what > 4 := of_decide_eq_false h5
      have g1 : ¬ x.what = 1 := by simpa using h1
      simp; omega
    obtain ⟨hs, hcase⟩ := step_some h1 hx (show atErr l x.way = 0 by simpa using hat)
    have hwn := wt_at l x.way hs
    have leaf : ∀ (t : Int) (n : Nd), (t == 1) = false → okAt (atN l x.way) x = true → (if (t == 0) = true then putW l x.way n else cutW l x.way) = (if (x.what == 2) = true then cutW l x.way else putW l x.way (chgNd (atN l x.way) x)) → stepE l x = doE l x.way t n ∧ stepL l x = doL l x.way t n := fun t n ht hok he => by
      obtain ⟨d1, d2⟩ := do_at (n := n) ht hs
      rcases hcase with ⟨z, _⟩ | ⟨_, z1, z2⟩
      · rw [hok] at z; cases z
      · exact ⟨z1.trans d1.symm, by rw [z2, d2, he]⟩
    have bad : okAt (atN l x.way) x = false → stepE l x = 7 ∧ stepL l x = [] := fun hno => by
      rcases hcase with ⟨_, z⟩ | ⟨z, _⟩
      · exact z
      · rw [hno] at z; cases z
    refine ⟨fun h2 => ⟨fun h => ?_, fun h => ⟨by show wtNds l + wtNd (default : Nd) ≤ wtMx; rw [hw0]; omega, ?_⟩⟩, fun h2 => ⟨fun h3 => ⟨fun h => ?_, fun h => ⟨?_, ?_⟩⟩, fun h3 => ⟨fun h4 => ⟨fun h => ?_, fun h => ⟨?_, ?_⟩⟩, fun h4 => ?_⟩⟩⟩
    · have h : eqNd (atN l x.way) x.old = false := by simpa using h
      have e2 : x.what = 2 := by simpa using h2
      obtain ⟨z1, z2⟩ := bad (by unfold okAt; rw [e2]; exact h)
      exact fin _ _ z1 z2
    · have h : eqNd (atN l x.way) x.old = true := by simpa using h
      have e2 : x.what = 2 := by simpa using h2
      obtain ⟨z1, z2⟩ := leaf 2 default rfl (by unfold okAt; rw [e2]; exact h) (by rw [e2]; rfl)
      exact fin _ _ z1 z2
    · have h : eql eqAt (atN l x.way).attrs x.old.attrs = false := by simpa using h
      have e2 : x.what = 3 := by simpa using h3
      obtain ⟨z1, z2⟩ := bad (by unfold okAt; rw [e2]; exact h)
      exact fin _ _ z1 z2
    · have := wtNd_eq (atN l x.way)
      have := wtNd_eq x.new
      rw [wtNd_eq]; dsimp only; omega
    · have h : eql eqAt (atN l x.way).attrs x.old.attrs = true := by simpa using h
      have e2 : x.what = 3 := by simpa using h3
      obtain ⟨z1, z2⟩ := leaf 0 { atN l x.way with attrs := x.new.attrs } rfl (by unfold okAt; rw [e2]; exact h) (by unfold chgNd; rw [e2]; rfl)
      exact fin _ _ z1 z2
    · have h : eqS (atN l x.way).text x.old.text = false := by simpa using h
      have e2 : x.what = 4 := by simpa using h4
      obtain ⟨z1, z2⟩ := bad (by unfold okAt; rw [e2]; exact h)
      exact fin _ _ z1 z2
    · have := wtNd_eq (atN l x.way)
      rw [wtNd_eq]; dsimp only; omega
    · have h : eqS (atN l x.way).text x.old.text = true := by simpa using h
      have e2 : x.what = 4 := by simpa using h4
      obtain ⟨z1, z2⟩ := leaf 0 { atN l x.way with text := x.new.text } rfl (by unfold okAt; rw [e2]; exact h) (by unfold chgNd; rw [e2]; rfl)
      exact fin _ _ z1 z2
    · have g2 : ¬ x.what = 2 := by simpa using h2
      have g3 : ¬ x.what = 3 := by simpa using h3
      have g4 : ¬ x.what = 4 := by simpa using h4
      simp only [Bool.or_eq_true, beq_iff_eq] at hx
      omega
theorem tokGApply : TOK cxGApply := AllH.tok (.cons gone_holds (by kernel_rfl) .nil)
theorem rd_red {a : List Ed} {i : Nat} (h : i < a.length) : rd .redit a (i : Int) = a[i] := rd_get (t := .redit) h
theorem gapply_sum : SumOK cxGApply (LL Try.f37 [lsGApply]) Try.f37.ntmps (loopAt Try.f37 0).1 (loopAt Try.f37 0).2 lsGApply := by
  intro vs bs K hs
  unfold lsGApply at hs
  simp only at hs
  split at hs
  case h_2 => exact hs.elim
  rename_i l s m i t1 t2
  obtain ⟨⟨rfl, rfl, hl, hw⟩, h⟩ := hs
  refine sum_for (fun i => applyOk l (s.take i) = true) (fun i => [.ptr 0 0, .row .node (applyL l (s.take i)), .row .redit s, .int .i64 s.length, .int .i64 i]) (fun i => [.box [.nil, .int .i64 0, .int .i64 0, .str t1, .nil, .str t2, .nil, .int .i64 0]]) s.length (fun i hi hp R hR => ?_) (fun hp R => ?_) rfl
  · have hg := applyOk_some hp
    have ew : s = s.take i ++ s[i] :: s.drop (i + 1) := by rw [← List.drop_eq_getElem_cons hi, List.take_append_drop]
    have hwt : wtEds s = wtEds (s.take i) + (wtEd s[i] + wtEds (s.drop (i + 1))) := by
      have := wtEds_app (s.take i) (s[i] :: s.drop (i + 1))
      rw [← ew, wtEds] at this; exact this
    have hwc := wt_apply hg
    refine Eq.mpr (vcGApplyB _ s t1 t2 s.length i _) ⟨fun _ => ⟨⟨by omega, by omega⟩, ?_⟩, fun h => lt_of h hi⟩
    rw [rd_red hi, ed_eta]
    have hnext : applyS l (s.take (i + 1)) = stepEd (applyL l (s.take i)) s[i] := by
      rw [← take_snoc hi, applyS_app, hg]; exact apply_one _ _
    refine ⟨by omega, ⟨fun h1 => ?_, fun h1 => ?_⟩⟩
    · have h1 : stepE (applyL l (s.take i)) s[i] ≠ 0 := by simpa using h1
      rcases stepE_cases (applyL l (s.take i)) s[i] with ⟨z, _⟩ | ⟨_, z1, z2⟩
      · exact (h1 z).elim
      rw [z1] at hnext
      have hall : applyS l s = .error (stepE (applyL l (s.take i)) s[i]) := by
        have hj := applyS_app (a := s.take (i + 1)) (b := s.drop (i + 1)) (l := l)
        rw [List.take_append_drop, hnext] at hj
        exact hj
      have hst := stop_at (b := s.drop (i + 1)) hg z1
      rw [← ew] at hst
      have := h.no (by unfold applyOk; rw [hall]; rfl)
      rw [show applyE l s = stepE (applyL l (s.take i)) s[i] by unfold applyE; rw [hall]; rfl, hst] at this
      exact this
    · have h1 : stepE (applyL l (s.take i)) s[i] = 0 := by simpa using h1
      rcases stepE_cases (applyL l (s.take i)) s[i] with ⟨_, z⟩ | ⟨z, _⟩
      · rw [z] at hnext
        rw [wrap_succ hi hl]
        have := hR (by unfold applyOk; rw [hnext]; rfl)
        rw [show applyL l (s.take (i + 1)) = stepL (applyL l (s.take i)) s[i] by unfold applyL; rw [hnext]; rfl] at this
        exact this
      · exact (z h1).elim
  · refine Eq.mpr (vcGApplyB _ s t1 t2 s.length s.length _) ⟨fun h => not_lt_self h, fun _ => ?_⟩
    rw [List.take_length] at hp ⊢
    exact h.yes hp
theorem gapply_holds : Holds 37 conGApply := conP_holds fun l s => by
  refine fun_meets1 tokGApply gotW lsGApply (by kernel_rfl) (by kernel_rfl) gapply_sum fun hpre => Eq.mpr (vcGApplyF l s _) ?_
  have hw : 2 * (wtNds l + wtEds s) ≤ wtMx := hpre _ rfl
  refine ⟨fun hm => ⟨⟨rfl, rfl, hm, hw⟩, ⟨fun h => qfin rfl ?_ rfl rfl, fun h => qfin rfl ?_ rfl rfl⟩⟩⟩
  · show _ = [AV.agg (gotL (applyL l s) default (applyE l s))]
    unfold applyE; rw [applyOk_some h]; rfl
  · show _ = [AV.agg (gotL (applyL l s) default (applyE l s))]
    rw [(applyOk_none h).2]; rfl
theorem tokGSteps : TOK cxGSteps := AllH.tok (.cons gapply_holds (by kernel_rfl) .nil)
theorem rd_pg {a : List (List Nd)} {i : Nat} (h : i < a.length) : rd .page a (i : Int) = a[i] := rd_get (t := .page) h
theorem gsteps_sum : SumOK cxGSteps (LL Try.f17 [lsGSteps]) Try.f17.ntmps (loopAt Try.f17 0).1 (loopAt Try.f17 0).2 lsGSteps := by
  intro vs bs K hs
  unfold lsGSteps at hs
  simp only at hs
  split at hs
  case h_2 => exact hs.elim
  rename_i e s m i out
  obtain ⟨⟨rfl, rfl, hl, ho, hw, hsz⟩, h⟩ := hs
  obtain ⟨l, hlast⟩ : ∃ l, l = out.getLastD [] := ⟨_, rfl⟩
  rw [← hlast] at hw h
  have hz : out ++ pagesL l (s.take 0) = out := by rw [List.take_zero, pagesL, List.append_nil]
  suffices H : ∃ m, roundsA cxGSteps (LL Try.f17 [lsGSteps]) Try.f17.ntmps (loopAt Try.f17 0).1 (loopAt Try.f17 0).2 lsGSteps.keep lsGSteps.left K m [.nil, .int .i64 e, .own 0 0, .row .redit s, .int .i64 s.length, .int .i64 (0 : Nat)] [.rowb 0 .page (out ++ pagesL l (s.take 0))] by
    rw [hz] at H; exact H
  refine sum_for (fun i => applyOk l (s.take i) = true) (fun i => [.nil, .int .i64 e, .own 0 0, .row .redit s, .int .i64 s.length, .int .i64 i]) (fun i => [.rowb 0 .page (out ++ pagesL l (s.take i))]) s.length (fun i hi hp R hR => ?_) (fun hp R => ?_) rfl
  · have hg := applyOk_some hp
    have hwt : wtEds s = wtEds (s.take i) + (wtEd s[i] + wtEds (s.drop (i + 1))) := by
      have := wtEds_app (s.take i) (s[i] :: s.drop (i + 1))
      rw [show wtEds (s[i] :: s.drop (i + 1)) = wtEd s[i] + wtEds (s.drop (i + 1)) from rfl, ← List.drop_eq_getElem_cons hi, List.take_append_drop] at this; exact this
    have hwc := wt_apply hg
    obtain ⟨O, hO⟩ : ∃ O, O = out ++ pagesL l (s.take i) := ⟨_, rfl⟩
    have hpl := pages_len l (s.take i)
    have htl : (s.take i).length = i := by rw [List.length_take]; omega
    have hOl : O.length ≤ out.length + i := by rw [hO, List.length_append]; omega
    have hOne : O ≠ [] := by rw [hO]; simp [ho]
    have hOp := List.length_pos_iff.2 hOne
    have hwr : IntKind.i64.wrap ((O.length : Int) - 1) = ((O.length - 1 : Nat) : Int) := by unfold maxSl at hsz; rw [wrap_id'] <;> omega
    have hrd : rd .page O ((O.length - 1 : Nat) : Int) = applyL l (s.take i) := by
      rw [rd_pg (by omega), ← getLastD_get hOne [], hO, hlast]
      exact pages_last ho (by rw [← hlast]; exact hg)
    rw [← hO]
    refine Eq.mpr (vcGStepsB O s e s.length i _) ⟨fun _ => ⟨⟨by omega, by omega⟩, ?_⟩, fun h => lt_of h hi⟩
    rw [hwr, hrd, rd_red hi, ed_eta]
    have hnext : applyS l (s.take (i + 1)) = stepEd (applyL l (s.take i)) s[i] := by
      rw [← take_snoc hi, applyS_app, hg]; exact apply_one _ _
    have e1 : applyE (applyL l (s.take i)) [s[i]] = stepE (applyL l (s.take i)) s[i] := by unfold applyE stepE; rw [apply_one]
    have e2 : applyL (applyL l (s.take i)) [s[i]] = stepL (applyL l (s.take i)) s[i] := by
      show okX (applyS (applyL l (s.take i)) [s[i]]) = _; rw [apply_one]; rfl
    rw [e1, e2]
    refine ⟨⟨by omega, by omega⟩, ⟨by simp only [wtEds]; omega, ⟨fun _ => ⟨fun h1 => ?_, fun h1 => ⟨?_, ?_⟩⟩⟩⟩⟩
    · have h1 : stepE (applyL l (s.take i)) s[i] ≠ 0 := by simpa using h1
      rcases stepE_cases (applyL l (s.take i)) s[i] with ⟨z, _⟩ | ⟨_, z1, z2⟩
      · exact (h1 z).elim
      rw [z1] at hnext
      have hall : applyS l s = .error (stepE (applyL l (s.take i)) s[i]) := by
        have hj := applyS_app (a := s.take (i + 1)) (b := s.drop (i + 1)) (l := l)
        rw [List.take_append_drop, hnext] at hj
        exact hj
      have hpg : pagesL l s = pagesL l (s.take i) := by
        have := pages_stop (b := s.drop (i + 1)) hg z1
        rw [← List.drop_eq_getElem_cons hi, List.take_append_drop] at this
        exact this
      have := h.no (by unfold applyOk; rw [hall]; rfl)
      rw [show applyE l s = stepE (applyL l (s.take i)) s[i] by unfold applyE; rw [hall]; rfl, hpg, ← hO] at this
      exact this
    · simp only [List.length_cons, List.length_nil]; omega
    · have h1 : stepE (applyL l (s.take i)) s[i] = 0 := by simpa using h1
      rcases stepE_cases (applyL l (s.take i)) s[i] with ⟨_, z⟩ | ⟨z, _⟩
      · have hpg : pagesL l (s.take (i + 1)) = pagesL l (s.take i) ++ [stepL (applyL l (s.take i)) s[i]] := by
          rw [← take_snoc hi, pages_snoc hg, z]
        rw [z] at hnext
        rw [wrap_succ hi hl]
        have := hR (by unfold applyOk; rw [hnext]; rfl)
        rw [hpg, ← List.append_assoc, ← hO] at this
        exact this
      · exact (z h1).elim
  · refine Eq.mpr (vcGStepsB _ s e s.length s.length _) ⟨fun h => not_lt_self h, fun _ => ?_⟩
    rw [List.take_length] at hp ⊢
    exact h.yes hp
theorem gsteps_holds : Holds 17 conGSteps := conP_holds fun l s => by
  refine fun_meets1 tokGSteps [.row .page, .as] lsGSteps (by kernel_rfl) (by kernel_rfl) gsteps_sum fun hpre => Eq.mpr (vcGStepsF l s _) ?_
  have hw : 2 * (wtNds l + wtEds s) ≤ wtMx := hpre _ rfl
  have hsl := wtEds_len s
  refine ⟨fun hm => ⟨⟨rfl, rfl, hm, by simp, hw, ?_⟩, ⟨fun h => qfin rfl ?_ rfl rfl, fun h => qfin rfl ?_ rfl rfl⟩⟩⟩
  · unfold wtMx at hw; unfold maxSl; simp only [List.length_cons, List.length_nil]; omega
  · show _ = [AV.row .page (stepsR l s), AV.int .i64 (applyE l s)]
    unfold applyE stepsR; rw [applyOk_some h, if_pos h]; rfl
  · show _ = [AV.row .page (stepsR l s), AV.int .i64 (applyE l s)]
    unfold stepsR; rw [if_neg (by rw [h]; decide)]
theorem ref_sum : SumOK cx0 (LL Try.f18 [lsRef]) Try.f18.ntmps (loopAt Try.f18 0).1 (loopAt Try.f18 0).2 lsRef := by
  intro vs bs K hs
  unfold lsRef at hs
  simp only at hs
  split at hs
  case h_2 => exact hs.elim
  rename_i s m i l
  obtain ⟨⟨rfl, rfl, h0, hl⟩, h⟩ := hs
  have : l = [] := List.eq_nil_of_length_eq_zero h0
  subst this
  have hm : s.length ≤ maxSl := by omega
  refine sum_for (fun _ => True) (fun i => [.own 0 0, .row .edit s, .int .i64 s.length, .int .i64 i]) (fun i => [.rowb 0 .redit (s.take i)]) s.length (fun i hi _ R hR => ?_) (fun _ R => ?_) trivial
  · refine Eq.mpr (vcRefB _ s s.length i _) ⟨fun _ => ⟨⟨by omega, by omega⟩, ?_⟩, fun h => lt_of h hi⟩
    rw [rd_ed hi, ed_eta]
    refine ⟨by simp only [List.length_take, List.length_cons, List.length_nil]; omega, ?_⟩
    rw [wrap_succ hi hm]
    have := hR trivial
    rw [← take_snoc hi] at this
    exact this
  · refine Eq.mpr (vcRefB _ s s.length s.length _) ⟨fun h => not_lt_self h, fun _ => ?_⟩
    rw [List.take_length]; exact h
theorem ref_holds : Holds 18 conRef := conP_holds fun s => by
  refine fun_meets1 tok0 [.row .redit] lsRef (by kernel_rfl) (by kernel_rfl) ref_sum fun hpre => Eq.mpr (vcRefF s _) ?_
  exact ⟨fun hm => ⟨⟨rfl, rfl, rfl, hpre _ rfl⟩, qfin rfl rfl rfl rfl⟩⟩
theorem tokLawSteps : TOK cxLawSteps := AllH.tok (.cons lg22_holds (by kernel_rfl) (.cons lo22_holds (by kernel_rfl) (.cons steps_holds (by kernel_rfl) (.cons ref_holds (by kernel_rfl) (.cons gsteps_holds (by kernel_rfl) (.cons nodes_holds (by kernel_rfl) (.cons none22_holds (by kernel_rfl) .nil)))))))
theorem lawSteps_sum : SumOK cxLawSteps (LL Try.f3 [lsLawSteps]) Try.f3.ntmps (loopAt Try.f3 0).1 (loopAt Try.f3 0).2 lsLawSteps := by
  intro vs bs K hs
  unfold lsLawSteps at hs
  simp only at hs
  split at hs
  case h_2 => exact hs.elim
  rename_i a b m i
  obtain ⟨⟨rfl, rfl, hb, hl⟩, h⟩ := hs
  rcases (show ∃ w : List (List Nd), w = a from ⟨_, rfl⟩) with ⟨a, rfl⟩
  rcases (show ∃ w : List (List Nd), w = b from ⟨_, rfl⟩) with ⟨b, rfl⟩
  have hb : b = a := hb
  subst hb
  refine sum_for (fun _ => True) (fun i => [.row .nodes b, .row .page b, .int .i64 b.length, .int .i64 i]) (fun i => []) b.length (fun i hi _ R hR => ?_) (fun _ R => ?_) trivial
  · refine Eq.mpr (vcLawStepsB b b b.length i _) ⟨fun _ => ⟨⟨by omega, by omega⟩, ⟨⟨by omega, by omega⟩, ⟨fun h1 => ?_, fun _ => ?_⟩⟩⟩, fun h => lt_of h hi⟩
    · rw [rd_nds hi, rd_pg hi, eql_self eqNd_self] at h1; cases h1
    · rw [wrap_succ hi hl]
      exact hR trivial
  · exact Eq.mpr (vcLawStepsB b b b.length b.length _) ⟨fun h => not_lt_self h, fun _ => h⟩
def conLawSteps : Con := conP [.row .node, .row .edit] fun (_ : List Nd) (_ : List Ed) => { res := .bool true }
theorem lawSteps_holds : Holds 3 conLawSteps := conP_holds fun l s => by
  refine fun_meets1 tokLawSteps [] lsLawSteps (by kernel_rfl) (by kernel_rfl) lawSteps_sum fun hpre => Eq.mpr (vcLawStepsF l s _) ?_
  refine ⟨fun _ => qfin rfl rfl rfl rfl, fun h1 => ⟨fun _ => qfin rfl rfl rfl rfl, fun h2 => ?_⟩⟩
  have w1 := large_wt h1
  have w2 := (long_wt (by decide) h2).1
  have w3 := wtEds_len s
  have hw : 2 * (wtNds l + wtEds s) ≤ wtMx := by unfold wtMx; omega
  refine ⟨hw, ⟨by unfold maxSl; omega, ⟨hw, ⟨fun h => ?_, fun _ => ⟨fun _ => ⟨fun _ => ⟨fun h => ?_, fun _ => ⟨fun hm => ⟨⟨rfl, rfl, rfl, hm⟩, qfin rfl rfl rfl rfl⟩⟩⟩⟩⟩⟩⟩⟩⟩
  · simp at h
  · simp at h
end Go.Proofs.Ytmkjjopflncedaa.AX
end
section
namespace Go.Proofs.Ytmkjjopflncedaa.AX
open Go Go.RowKit
theorem list_of {α : Type} {Q : Nat → α → Prop} : ∀ n : Nat, (∀ i, i < n → ∃ x, Q i x) → ∃ l : List α, l.length = n ∧ ∀ i x, l[i]? = some x → Q i x
  | 0, _ => ⟨[], rfl, fun i x h => by simp at h⟩
  | n + 1, h => by
    obtain ⟨l, hl, hq⟩ := list_of n fun i hi => h i (by omega)
    obtain ⟨x, hx⟩ := h n (by omega)
    refine ⟨l ++ [x], by rw [List.length_append, hl]; rfl, fun i y hy => ?_⟩
    rcases Nat.lt_or_ge i n with z | z
    · rw [List.getElem?_append_left (by omega)] at hy; exact hq i y hy
    · rw [List.getElem?_append_right (by omega), hl] at hy
      have : i - n = 0 := by
        rcases Nat.eq_zero_or_pos (i - n) with w | w
        · exact w
        · rw [List.getElem?_eq_none (by simp only [List.length_cons, List.length_nil]; omega)] at hy; cases hy
      rw [this] at hy
      obtain rfl : x = y := by simpa using hy
      obtain rfl : i = n := by omega
      exact hx
theorem mapM_spec {α : Type} (f : Nat → Option α) : ∀ (l : List Nat) (cs : List α), l.mapM f = some cs → cs.length = l.length ∧ ∀ (j : Nat) (u : α), cs[j]? = some u → ∃ i, l[j]? = some i ∧ f i = some u
  | [], cs, h => by simp at h; subst h; exact ⟨rfl, fun j u h => by simp at h⟩
  | i :: l, cs, h => by
    simp only [List.mapM_cons, Option.bind_eq_bind, Option.bind_eq_some_iff, Option.pure_def, Option.some.injEq] at h
    obtain ⟨x, hx, ys, hy, rfl⟩ := h
    obtain ⟨h1, h2⟩ := mapM_spec f l ys hy
    refine ⟨by simp [h1], fun j u hu => ?_⟩
    cases j with
    | zero => simp at hu; subst hu; exact ⟨i, rfl, hx⟩
    | succ j => simpa using h2 j u (by simpa using hu)
theorem cells_spec {w : World} {base n : Nat} {a : Addr} {cs : List Value} (h : w.cells? base a n = some cs) : cs.length = n ∧ ∀ j u, cs[j]? = some u → w.cell? (a.add j) = some u := by
  unfold World.cells? at h
  split at h
  · obtain ⟨h1, h2⟩ := mapM_spec _ _ _ h
    refine ⟨by simpa using h1, fun j u hu => ?_⟩
    obtain ⟨i, hi, hf⟩ := h2 j u hu
    obtain ⟨hlt, e⟩ := List.getElem?_eq_some_iff.1 hi
    simp at e
    subst e
    exact hf
  · cases h
theorem spot_of {w : World} {a : Addr} {v : Value} (h : w.cell? a = some v) : a.spot = none := by
  unfold World.cell? at h
  split at h
  · split at h
    · cases h
    · rename_i hs; simpa using hs
  · cases h
section
variable {H : Type} {enc : TypeId × Value → H} {w : World} {base : Nat} {spare : Nat → Bool} {held : Bool} {O : Nat → Prop} {I : Im}
def Small (t : TypeId) (d : DataW H) : Prop := ∀ n ∈ d.weights Try.prog t, n ≤ reachBytes
theorem small_all {e : TypeId} : ∀ {ds : List (DataW H)} {i : Nat} {d : DataW H}, ds[i]? = some d → ∀ n ∈ d.weights Try.prog e, n ∈ DataW.weightsAll Try.prog e ds
  | [], _, _, h, _, _ => by simp at h
  | x :: ds, 0, d, h, n, hn => by simp at h; subst h; rw [DataW.weightsAll]; exact List.mem_append.2 (.inl hn)
  | x :: ds, i + 1, d, h, n, hn => by rw [DataW.weightsAll]; exact List.mem_append.2 (.inr (small_all (by simpa using h) n hn))
theorem open_row {t : Ty} {e sl : TypeId} (hu : Try.prog.underlying sl = some (.slice e)) (hc : Try.prog.cellsOf e = width t) (hb : 1 ≤ Try.prog.bytesOf e) (hO : ∀ b, ¬ O b)
    {m : Nat} {cs : List Value} {y : DataW H × List MemPlace} (h : DataW.trod enc Try.prog w base spare held m sl cs = some y) (hs : Small sl y.1)
    (hel : ∀ (n : Nat) (c : List Value) (z : DataW H × List MemPlace), n < m → c.length = width t → DataW.trod enc Try.prog w base spare held n e c = some z → Small e z.1 → ∃ x : den t, All2 (LeafR w O I) c (leaves t x)) :
    ∃ (v : Value) (l : List (den t)), cs = [v] ∧ LeafR w O I v (.row t l) := by
  rcases DataW.trod_slice hu h with ⟨rfl, _⟩ | ⟨a, len, cap, elems, rest, n, rfl, rfl, rfl, _, hl, _, hlen, hels, _, _⟩
  · exact ⟨_, [], rfl, .row0 t⟩
  · have hW := width_pos t
    rw [hc] at hels
    have hsz : len ≤ maxSl := by
      have h1 := hs ((((elems.map (·.1)).length + (rest.map (·.1)).length) * Try.prog.bytesOf e)) (by simp only [DataW.weights, hu]; exact .head _)
      simp only [List.length_map] at h1
      have : len ≤ (elems.length + rest.length) * Try.prog.bytesOf e := by
        rw [hlen]; exact Nat.le_trans (Nat.le_add_right _ _) (Nat.le_mul_of_pos_right _ hb)
      unfold reachBytes at h1
      unfold maxSl
      omega
    obtain ⟨l, hll, hq⟩ := list_of (Q := fun i (x : den t) => ∃ c : List Value, c.length = width t ∧ All2 (LeafR w O I) c (leaves t x) ∧ ∀ j u, c[j]? = some u → w.cell? (a.add (i * width t + j)) = some u) len fun i hi => by
      have h1 := hels i hi
      obtain ⟨z, hz⟩ : ∃ z, elems[i]? = some z := ⟨_, List.getElem?_eq_getElem (by omega)⟩
      rw [hz] at h1
      obtain ⟨c, hcc, ht⟩ := Option.bind_eq_some_iff.1 h1
      obtain ⟨g1, g2⟩ := cells_spec hcc
      have hsz' : Small e z.1 := fun k hk => hs k (by
        simp only [DataW.weights, hu]
        exact .tail _ (List.mem_append.2 (.inl (small_all (i := i) (by rw [List.getElem?_map, hz]; rfl) k hk))))
      obtain ⟨x, hx⟩ := hel n c z (Nat.lt_succ_self _) g1 ht hsz'
      refine ⟨x, c, g1, hx, fun j u hu' => ?_⟩
      have := g2 j u hu'
      unfold Addr.add at this ⊢
      by_cases hj : j = 0
      · subst hj; simpa using this
      · rw [if_neg hj] at this
        rw [if_neg (by omega)]
        split at this
        · rename_i h0; rw [h0, Nat.zero_add]; exact this
        · simpa [Nat.add_assoc] using this
    refine ⟨_, l, rfl, ?_⟩
    rcases Nat.eq_zero_or_pos len with h0 | h0
    · have : l = [] := List.eq_nil_of_length_eq_zero (by omega)
      subst this
      subst h0
      exact .rowz a cap t
    · have hcell : ∀ j, j < len * width t → ∃ u, w.cell? (a.add j) = some u ∧ ∀ x, (cellsOf t l)[j]? = some x → LeafR w O I u x := fun j hj => by
        have hd : j / width t < l.length := by rw [hll]; exact Nat.div_lt_of_lt_mul (by rw [Nat.mul_comm]; exact hj)
        obtain ⟨c, k1, k2, k3⟩ := hq (j / width t) l[j / width t] (List.getElem?_eq_getElem hd)
        have hm : j % width t < c.length := by rw [k1]; exact Nat.mod_lt _ hW
        have h3 := k3 (j % width t) c[j % width t] (List.getElem?_eq_getElem hm)
        have hj' : j / width t * width t + j % width t = j := by rw [Nat.mul_comm]; exact Nat.div_add_mod j (width t)
        rw [hj'] at h3
        refine ⟨_, h3, fun x hx => ?_⟩
        rw [cellsOf_get hd] at hx
        obtain ⟨y', hy', hr⟩ := k2.get' (List.getElem?_eq_getElem hm)
        rw [hx] at hy'; injection hy' with hy'; subst hy'; exact hr
      obtain ⟨b, off, sp⟩ := a
      obtain ⟨u0, hu0, _⟩ := hcell 0 (Nat.mul_pos h0 hW)
      have hsp : sp = none := spot_of hu0
      subst hsp
      have key := LeafR.row (w := w) (O := O) (I := I) b off cap t l ((List.range (len * width t)).map fun j => (w.cell? ⟨b, off + j, none⟩).getD (.bool false)) (fun _ => hO b) (by omega) (by omega) (fun j u hu' => ?_) (by simp only [List.length_map, List.length_range]; rw [cellsOf_length, hll]) (fun j u x hu' hx => ?_)
      · rw [hll] at key; exact key
      · simp only [List.getElem?_map, Option.map_eq_some_iff] at hu'
        obtain ⟨k, hk, rfl⟩ := hu'
        obtain ⟨hlt, e'⟩ := List.getElem?_eq_some_iff.1 hk
        simp at e' hlt
        subst e'
        obtain ⟨u1, hu1, _⟩ := hcell j hlt
        have e2 : (⟨b, off, none⟩ : Addr).add j = ⟨b, off + j, none⟩ := by unfold Addr.add; split <;> simp_all
        rw [e2] at hu1
        rw [hu1]; rfl
      · simp only [List.getElem?_map, Option.map_eq_some_iff] at hu'
        obtain ⟨k, hk, rfl⟩ := hu'
        obtain ⟨hlt, e'⟩ := List.getElem?_eq_some_iff.1 hk
        simp at e' hlt
        subst e'
        obtain ⟨u1, hu1, hr⟩ := hcell j hlt
        have e2 : (⟨b, off, none⟩ : Addr).add j = ⟨b, off + j, none⟩ := by unfold Addr.add; split <;> simp_all
        rw [e2] at hu1
        rw [hu1]
        exact hr x hx
/-- A field's reading. -/
theorem field_of {t : TypeId} {fs : Array Field} (hu : Try.prog.underlying t = some (.struct fs)) {m : Nat} {cs : List Value} {y : DataW H × List MemPlace} (h : DataW.trod enc Try.prog w base spare held m t cs = some y) (hs : Small t y.1) (i : Nat) (f : Field) (hf : fs[i]? = some f) :
    ∃ (n : Nat) (z : DataW H × List MemPlace), n < m ∧ DataW.trod enc Try.prog w base spare held n f.type ((cs.drop f.offset).take (Try.prog.cellsOf f.type)) = some z ∧ Small f.type z.1 := by
  obtain ⟨xs, n, rfl, rfl, _, hlen, hff⟩ := DataW.trod_struct hu h
  have hlt : i < xs.length := by rw [hlen]; exact (Array.getElem?_eq_some_iff.1 hf).1
  refine ⟨n, xs[i], Nat.lt_succ_self _, by rw [hff i f hf, List.getElem?_eq_getElem hlt], fun k hk => hs k ?_⟩
  simp only [DataW.weights, hu]
  refine DataW.weights_mem_each (j := i) (t := f.type) (d := xs[i].1) ?_ ?_ k hk
  · rw [List.getElem?_map, Array.getElem?_toList, hf]; rfl
  · rw [List.getElem?_map, List.getElem?_eq_getElem hlt]; rfl
theorem struct_len {t : TypeId} {fs : Array Field} (hu : Try.prog.underlying t = some (.struct fs)) {m : Nat} {cs : List Value} {y : DataW H × List MemPlace} (h : DataW.trod enc Try.prog w base spare held m t cs = some y) : cs.length = Try.prog.cellsOf t := by
  obtain ⟨_, _, _, _, hl, _, _⟩ := DataW.trod_struct hu h
  exact hl
theorem open_int1 {m : Nat} {cs : List Value} {y : DataW H × List MemPlace} (h : DataW.trod enc Try.prog w base spare held m 3 cs = some y) : ∃ n, cs = [.int .i64 n] := by
  obtain ⟨n, e, _, _⟩ := DataW.trod_int Try.underlying3 h
  exact ⟨n, e⟩
theorem open_str1 {m : Nat} {cs : List Value} {y : DataW H × List MemPlace} (h : DataW.trod enc Try.prog w base spare held m 9 cs = some y) (hs : Small 9 y.1) : ∃ s : ByteArray, cs = [.string s] ∧ s.size ≤ maxSl := by
  obtain ⟨s, e, rfl, _⟩ := DataW.trod_string Try.underlying9 h
  refine ⟨s, e, ?_⟩
  have := hs s.data.toList.length (by simp [DataW.weights])
  rw [Array.length_toList] at this
  have h2 : s.size ≤ reachBytes := this
  unfold reachBytes at h2
  unfold maxSl
  omega
theorem cells_int : Try.prog.cellsOf 3 = 1 := by kernel_rfl
theorem cells_str : Try.prog.cellsOf 9 = 1 := by kernel_rfl
theorem cells_ints : Try.prog.cellsOf 58 = 1 := by kernel_rfl
theorem cells_ats : Try.prog.cellsOf 51 = 1 := by kernel_rfl
theorem cells_nds : Try.prog.cellsOf 22 = 1 := by kernel_rfl
theorem cells_at : Try.prog.cellsOf 95 = 2 := by kernel_rfl
theorem cells_nd : Try.prog.cellsOf 53 = 6 := by kernel_rfl
theorem cells_ed : Try.prog.cellsOf 60 = 14 := by kernel_rfl
theorem open_ints (hO : ∀ b, ¬ O b) {m : Nat} {cs : List Value} {y : DataW H × List MemPlace} (h : DataW.trod enc Try.prog w base spare held m 58 cs = some y) (hs : Small 58 y.1) : ∃ (v : Value) (l : List Int), cs = [v] ∧ LeafR w O I v (.row .int l) :=
  open_row (t := .int) Try.underlying58 cells_int (Nat.le_of_ble_eq_true (by kernel_rfl)) hO h hs fun n c z _ _ hz _ => by
    obtain ⟨k, rfl⟩ := open_int1 hz
    exact ⟨k, .cons (.int _ _) .nil⟩
set_option maxRecDepth 100000
theorem open_ats (hO : ∀ b, ¬ O b) {m : Nat} {cs : List Value} {y : DataW H × List MemPlace} (h : DataW.trod enc Try.prog w base spare held m 51 cs = some y) (hs : Small 51 y.1) : ∃ (v : Value) (l : List At), cs = [v] ∧ LeafR w O I v (.row .attr l) :=
  open_row (t := .attr) Try.underlying51 cells_at (Nat.le_of_ble_eq_true (by kernel_rfl)) hO h hs fun n c z _ hl hz hsz => by
    obtain ⟨_, z0, _, g0, s0⟩ := field_of Try.underlying95 hz hsz 0 _ rfl
    obtain ⟨_, z1, _, g1, s1⟩ := field_of Try.underlying95 hz hsz 1 _ rfl
    obtain ⟨x0, e0, b0⟩ := open_str1 g0 s0
    obtain ⟨x1, e1, b1⟩ := open_str1 g1 s1
    match c, hl with
    | [c0, c1], _ =>
      simp [cells_str] at e0 e1
      subst e0 e1
      exact ⟨⟨x0, x1⟩, .cons (.str _ b0) (.cons (.str _ b1) .nil)⟩
theorem open_nd (hO : ∀ b, ¬ O b) : ∀ (m : Nat) {cs : List Value} {y : DataW H × List MemPlace}, DataW.trod enc Try.prog w base spare held m 53 cs = some y → Small 53 y.1 → ∃ x : Nd, All2 (LeafR w O I) cs (nodeL x) := by
  intro m
  induction m using Nat.strongRecOn with
  | ind m ih =>
    intro cs y h hs
    obtain ⟨_, z0, _, g0, s0⟩ := field_of Try.underlying53 h hs 0 _ rfl
    obtain ⟨_, z1, _, g1, s1⟩ := field_of Try.underlying53 h hs 1 _ rfl
    obtain ⟨_, z2, _, g2, s2⟩ := field_of Try.underlying53 h hs 2 _ rfl
    obtain ⟨_, z3, _, g3, s3⟩ := field_of Try.underlying53 h hs 3 _ rfl
    obtain ⟨_, z4, _, g4, s4⟩ := field_of Try.underlying53 h hs 4 _ rfl
    obtain ⟨n5, z5, l5, g5, s5⟩ := field_of Try.underlying53 h hs 5 _ rfl
    have hlen := struct_len Try.underlying53 h
    rw [cells_nd] at hlen
    obtain ⟨x0, e0⟩ := open_int1 g0
    obtain ⟨x1, e1⟩ := open_int1 g1
    obtain ⟨x2, e2, b2⟩ := open_str1 g2 s2
    obtain ⟨v3, x3, e3, r3⟩ := open_ats (I := I) hO g3 s3
    obtain ⟨x4, e4, b4⟩ := open_str1 g4 s4
    obtain ⟨v5, x5, e5, r5⟩ := open_row (t := .node) (I := I) Try.underlying22 cells_nd (Nat.le_of_ble_eq_true (by kernel_rfl)) hO g5 s5 fun n c z hn _ hz hsz => ih n (by omega) hz hsz
    match cs, hlen with
    | [c0, c1, c2, c3, c4, c5], _ =>
      simp [cells_int, cells_str, cells_ats, cells_nds] at e0 e1 e2 e3 e4 e5
      subst e0 e1 e2 e3 e4 e5
      exact ⟨⟨x0, x1, x2, x3, x4, x5⟩, .cons (.int _ _) (.cons (.int _ _) (.cons (.str _ b2) (.cons r3 (.cons (.str _ b4) (.cons r5 .nil)))))⟩
theorem open_nds (hO : ∀ b, ¬ O b) {m : Nat} {cs : List Value} {y : DataW H × List MemPlace} (h : DataW.trod enc Try.prog w base spare held m 22 cs = some y) (hs : Small 22 y.1) : ∃ (v : Value) (l : List Nd), cs = [v] ∧ LeafR w O I v (.row .node l) :=
  open_row (t := .node) Try.underlying22 cells_nd (Nat.le_of_ble_eq_true (by kernel_rfl)) hO h hs fun n c z _ _ hz hsz => open_nd hO n hz hsz
theorem open_eds (hO : ∀ b, ¬ O b) {m : Nat} {cs : List Value} {y : DataW H × List MemPlace} (h : DataW.trod enc Try.prog w base spare held m 23 cs = some y) (hs : Small 23 y.1) : ∃ (v : Value) (l : List Ed), cs = [v] ∧ LeafR w O I v (.row .edit l) :=
  open_row (t := .edit) Try.underlying23 cells_ed (Nat.le_of_ble_eq_true (by kernel_rfl)) hO h hs fun n c z _ hl hz hsz => by
    obtain ⟨_, z0, _, g0, s0⟩ := field_of Try.underlying60 hz hsz 0 _ rfl
    obtain ⟨_, z1, _, g1, s1⟩ := field_of Try.underlying60 hz hsz 1 _ rfl
    obtain ⟨_, z2, _, g2, s2⟩ := field_of Try.underlying60 hz hsz 2 _ rfl
    obtain ⟨_, z3, _, g3, s3⟩ := field_of Try.underlying60 hz hsz 3 _ rfl
    obtain ⟨x0, e0⟩ := open_int1 g0
    obtain ⟨v1, x1, e1, r1⟩ := open_ints (I := I) hO g1 s1
    obtain ⟨x2, r2⟩ := open_nd (I := I) hO _ g2 s2
    obtain ⟨x3, r3⟩ := open_nd (I := I) hO _ g3 s3
    match c, hl with
    | [c0, c1, c2, c3, c4, c5, c6, c7, c8, c9, c10, c11, c12, c13], _ =>
      simp [cells_int, cells_ints] at e0 e1
      subst e0 e1
      simp [cells_nd] at r2 r3
      refine ⟨⟨x0, x1, x2, x3⟩, .cons (.int _ _) (.cons r1 ?_)⟩
      exact r2.append r3
end
/-- A slice that came in. -/
theorem opened {H : Type} {enc : TypeId × Value → H} {w : World} {spare : Nat → Bool} {held : Bool} {t : TypeId} {v : Value} {d : DataW H} {p : List MemPlace} (h : DataW.Trod enc Try.prog w 0 spare held t v d p) : ∃ m, DataW.trod enc Try.prog w 0 spare held m t v.cells.toList = some (d, p) := h
end Go.Proofs.Ytmkjjopflncedaa.AX
end
