/- What the code of this statement does, over values that stand for data: an executor of the model's code, that it is sound, and contracts of functions: part 4. No condition is added to the statement. -/
import Derived.Test.YtmkjjopflncedaaMO3
set_option linter.unusedVariables false
set_option linter.unusedSimpArgs false
section
namespace Go.Proofs.Ytmkjjopflncedaa.AXP
open Go Go.Proofs.Ytmkjjopflncedaa.AX
def inB (l : List Nd) (i : Int) : Bool := 0 ≤ i && i < (l.length : Int)
/-- The list that a way leads to. -/
def stepsW : List Nd → List Int → Option (List Nd)
  | l, [] => some l
  | l, i :: ws => if inB l i = true then stepsW (l.getD i.toNat default).kids ws else none
/-- Nodes with another list at a way. -/
def plugS : List Nd → List Int → List Nd → List Nd
  | _, [], k => k
  | l, i :: ws, k => l.set i.toNat { l.getD i.toNat default with kids := plugS (l.getD i.toNat default).kids ws k }
end Go.Proofs.Ytmkjjopflncedaa.AXP
namespace Go.Proofs.Ytmkjjopflncedaa.AX
open Go Go.RowKit AXP
theorem inB_nat {l : List Nd} {i : Int} (h : inB l i = true) : ∃ n : Nat, i = n ∧ n < l.length := by
  simp only [inB, Bool.and_eq_true, decide_eq_true_eq] at h
  exact ⟨i.toNat, by omega, by omega⟩
theorem stepsW_snoc : ∀ {ws : List Int} {l xs : List Nd} {i : Int}, stepsW l ws = some xs → stepsW l (ws ++ [i]) = if inB xs i = true then some (xs.getD i.toNat default).kids else none
  | [], l, xs, i, h => by injection h with h; subst h; rfl
  | j :: ws, l, xs, i, h => by
    rw [List.cons_append]
    simp only [stepsW] at h ⊢
    split at h
    · rename_i hj
      rw [if_pos hj]
      exact stepsW_snoc h
    · cases h
theorem stepsW_none : ∀ {ws ws' : List Int} {l : List Nd}, stepsW l ws = none → stepsW l (ws ++ ws') = none
  | [], _, l, h => by cases h
  | j :: ws, ws', l, h => by
    rw [List.cons_append]
    simp only [stepsW] at h ⊢
    split at h
    · rename_i hj; rw [if_pos hj]; exact stepsW_none h
    · rename_i hj; rw [if_neg hj]
/-- The cell of the list that a way leads to, and what it holds. -/
def Path (w : World) : Value → List Int → Addr → Value → Prop
  | _, [], _, _ => False
  | v, [i], X, vx => ∃ g n c, v = .slice (some ⟨g, 0, none⟩) n c ∧ X = ⟨g, i.toNat * 6 + 5, none⟩ ∧ w.cell? X = some vx
  | v, i :: j :: ws, X, vx => ∃ g n c c5, v = .slice (some ⟨g, 0, none⟩) n c ∧ w.cell? ⟨g, i.toNat * 6 + 5, none⟩ = some c5 ∧ Path w c5 (j :: ws) X vx
theorem Path.snoc {w : World} : ∀ {ws : List Int} {v vx c5 : Value} {X : Addr} {g n c : Nat} {i : Int}, Path w v ws X vx → vx = .slice (some ⟨g, 0, none⟩) n c → w.cell? ⟨g, i.toNat * 6 + 5, none⟩ = some c5 → Path w v (ws ++ [i]) ⟨g, i.toNat * 6 + 5, none⟩ c5
  | [], v, vx, c5, X, g, n, c, i, h, _, _ => h.elim
  | [j], v, vx, c5, X, g, n, c, i, h, hx, h5 => by
    obtain ⟨g0, n0, c0, h1, rfl, h3⟩ := h
    exact ⟨g0, n0, c0, vx, h1, h3, g, n, c, hx, rfl, h5⟩
  | j :: k :: ws, v, vx, c5, X, g, n, c, i, h, hx, h5 => by
    obtain ⟨g0, n0, c0, c1, h1, h2, h3⟩ := h
    exact ⟨g0, n0, c0, c1, h1, h2, h3.snoc hx h5⟩
/-- A kid's list. -/
theorem DRow.kid {w : World} {l : List Nd} {v : Value} {lo hi : Nat} (h : DRow w l v lo hi) {i : Nat} (hi' : i < l.length) : ∃ g c c5 vs mid a m b, v = .slice (some ⟨g, 0, none⟩) l.length c ∧ lo ≤ g ∧ g < mid ∧ mid ≤ a ∧ a ≤ m ∧ m ≤ b ∧ b ≤ hi ∧ w.ownsRow 0 53 6 v l.length vs ∧ w.cell? ⟨g, i * 6 + 5, none⟩ = some c5 ∧ w.frozen? ⟨g, i * 6 + 5, none⟩ = false ∧ g < w.heap.size ∧
    DRow w l[i].kids c5 m b ∧ DNds w (l.take i) (vs.take (i * 6)) mid a ∧ DNds w (l.drop (i + 1)) (vs.drop ((i + 1) * 6)) b hi ∧
    ∃ c3, (vs.drop (i * 6)).take 6 = [.int .i64 l[i].kind, .int .i64 l[i].space, .string l[i].name, c3, .string l[i].text, c5] ∧ l[i].name.size ≤ maxSl ∧ l[i].text.size ≤ maxSl ∧ fitAts l[i].attrs ∧ l[i].attrs.length ≤ maxSl ∧ w.ownsRow 0 95 2 c3 l[i].attrs.length (atCells l[i].attrs) ∧ Inn c3 a m := by
  obtain ⟨mid, vs, h0, h1, h2, h3⟩ := h
  obtain ⟨a, b, g1, g2, g3, g4, g5, g6⟩ := h3.at hi'
  rw [DNd_eq] at g4
  obtain ⟨c3, c5, m, e, a1, a2, a3, a4, a5, a6, a7⟩ := g4
  rcases h2.2 with ⟨_, hz⟩ | ⟨g, cap, cur, rfl, _, hg, hn, hcm, hcs, ht⟩
  · omega
  have e5 : vs[i * 6 + 5]? = some c5 := by
    have : ((vs.drop (i * 6)).take 6)[5]? = some c5 := by rw [e]; rfl
    rw [List.getElem?_take, if_pos (by omega), List.getElem?_drop] at this
    exact this
  have hc := h2.cells (g := g) rfl _ _ e5
  rw [Addr.add_lit, Nat.zero_add] at hc
  exact ⟨g, cap, c5, vs, mid, a, m, b, rfl, (h1.2 g rfl).1, (h1.2 g rfl).2, g1, a6.1, a7.le, g3, h2, hc, frozen_of hg _, (Array.getElem?_eq_some_iff.1 hg).1, a7, g5, g6, c3, e, a1, a2, a3, a4, a5, a6⟩
theorem getD_nat {l : List Nd} {i : Nat} (h : i < l.length) : l.getD ((i : Int)).toNat default = l[i] := by
  rw [Int.toNat_natCast, List.getD_eq_getElem?_getD, List.getElem?_eq_getElem h]; rfl
theorem Path.inn {w : World} : ∀ {ws : List Int} {l xs : List Nd} {v vx : Value} {X : Addr} {lo hi : Nat}, DRow w l v lo hi → Path w v ws X vx → stepsW l ws = some xs → ∃ lox hix, DRow w xs vx lox hix ∧ lo ≤ X.block ∧ X.block < lox ∧ hix ≤ hi
  | [], l, xs, v, vx, X, lo, hi, _, h, _ => h.elim
  | [i], l, xs, v, vx, X, lo, hi, hD, h, hs => by
    simp only [stepsW] at hs
    split at hs
    case isFalse => cases hs
    rename_i hin
    obtain ⟨n, rfl, hn⟩ := inB_nat hin
    rw [getD_nat hn] at hs
    injection hs with hs
    subst hs
    obtain ⟨g, c, c5, vs, mid, a, m, b, rfl, p1, p2, p3, p4, p5, p6, _, p7, _, _, p8, _⟩ := hD.kid hn
    obtain ⟨g', n', c', e, rfl, hx⟩ := h
    cases e
    rw [Int.toNat_natCast, p7] at hx
    injection hx with hx
    subst hx
    exact ⟨m, b, p8, p1, by show g < m; omega, p6⟩
  | i :: j :: ws, l, xs, v, vx, X, lo, hi, hD, h, hs => by
    rw [stepsW] at hs
    split at hs
    case isFalse => cases hs
    rename_i hin
    obtain ⟨n, rfl, hn⟩ := inB_nat hin
    rw [getD_nat hn] at hs
    obtain ⟨g, c, c5, vs, mid, a, m, b, rfl, p1, p2, p3, p4, p5, p6, _, p7, _, _, p8, _⟩ := hD.kid hn
    obtain ⟨g', n', c', c5', e, hx, hp⟩ := h
    cases e
    rw [Int.toNat_natCast, p7] at hx
    injection hx with hx
    subst hx
    obtain ⟨lox, hix, q1, q2, q3, q4⟩ := hp.inn p8 hs
    exact ⟨lox, hix, q1, by omega, q3, by omega⟩
/-- The list at a way has turned: the nodes, with it. -/
theorem plug_row {w W1 : World} {O : Nat → Prop} {I : Im} {k' : List Nd} {v' : Value} {X : Addr} {vx : Value} (hX : X.spot = none) (hk : LeafR (W1.setCell X v') O I v' (.row .node k')) :
    ∀ {ws : List Int} {l xs : List Nd} {v : Value} {lo hi : Nat}, DRow w l v lo hi → Path w v ws X vx → stepsW l ws = some xs → (∀ b, lo ≤ b → b < hi → vx.ownBlock ≠ some b → W1.heap[b]? = w.heap[b]?) → (∀ b, lo ≤ b → b < hi → v.ownBlock ≠ some b → ¬ O b) →
      ∃ us, (W1.setCell X v').ownsRow 0 53 6 v l.length us ∧ All2 (LeafR (W1.setCell X v') O I) us (cellsOf .node (plugS l ws k')) ∧ (plugS l ws k').length = l.length
  | [], l, xs, v, lo, hi, _, h, _, _, _ => h.elim
  | i :: ws, l, xs, v, lo, hi, hD, h, hs, hW, hO => by
    have hs0 := hs
    rw [stepsW] at hs
    split at hs
    case isFalse => cases hs
    rename_i hin
    obtain ⟨n, rfl, hn⟩ := inB_nat hin
    rw [getD_nat hn] at hs
    obtain ⟨lox, hix, x1, x2, x3, x4⟩ := h.inn hD hs0
    obtain ⟨g, c, c5, vs, mid, a, m, b, rfl, p1, p2, p3, p4, p5, p6, po, p7, _, _, p8, p9, p10, c3, q0, q1, q2, q3, q4, q5, q6⟩ := hD.kid hn
    have hvxb : ∀ bb, vx.ownBlock = some bb → lox ≤ bb ∧ bb < hix := fun bb hb => by
      obtain ⟨mm, _, _, r1, _, r2⟩ := x1
      have := r1.2 bb hb
      have := r2.le
      omega
    have hset : ∀ bb, bb ≠ X.block → (W1.setCell X v').heap[bb]? = W1.heap[bb]? := fun bb hb => by
      obtain ⟨xb, xo, xs⟩ := X
      cases hX
      exact setCell_ne _ _ _ _ _ hb
    have hlen : (plugS l ((n : Int) :: ws) k').length = l.length := by rw [plugS, List.length_set]
    have hcells : cellsOf .node (plugS l ((n : Int) :: ws) k') = cellsOf .node (l.take n) ++ (nodeL { l[n] with kids := plugS l[n].kids ws k' } ++ cellsOf .node (l.drop (n + 1))) := by
      rw [plugS, getD_nat hn, Int.toNat_natCast, List.set_eq_take_append_cons_drop, if_pos hn, cellsOf_append]
      rfl
    have hvs : vs.take (n * 6) ++ ((vs.drop (n * 6)).take 6 ++ vs.drop ((n + 1) * 6)) = vs := by
      rw [show (n + 1) * 6 = n * 6 + 6 by omega, ← List.drop_drop, List.take_append_drop, List.take_append_drop]
    have hdone : ∀ (cc : Value), LeafR (W1.setCell X v') O I cc (.row .node (plugS l[n].kids ws k')) → (∀ bb, lo ≤ bb → bb < hi → ¬ (m ≤ bb ∧ bb < b) → bb ≠ g → (W1.setCell X v').heap[bb]? = w.heap[bb]?) →
        (W1.setCell X v').ownsRow 0 53 6 (.slice (some ⟨g, 0, none⟩) l.length c) l.length (vs.take (n * 6) ++ ([.int .i64 l[n].kind, .int .i64 l[n].space, .string l[n].name, c3, .string l[n].text, cc] ++ vs.drop ((n + 1) * 6))) →
        ∃ us, (W1.setCell X v').ownsRow 0 53 6 (.slice (some ⟨g, 0, none⟩) l.length c) l.length us ∧ All2 (LeafR (W1.setCell X v') O I) us (cellsOf .node (plugS l ((n : Int) :: ws) k')) ∧ (plugS l ((n : Int) :: ws) k').length = l.length := by
      intro cc hcc hfar how
      refine ⟨_, how, ?_, hlen⟩
      rw [hcells]
      have l9 := p9.le
      have l10 := p10.le
      have notO : ∀ bb, mid ≤ bb → bb < hi → ¬ O bb := fun bb h1 h2 => hO bb (by omega) h2 (fun e => by injection (show some g = some bb from e) with e; omega)
      refine All2.append ((p9.mono fun bb h1 h2 => hfar bb (by omega) (by omega) (by omega) (by omega)).leaf fun bb h1 h2 => notO bb h1 (by omega)) (All2.append ?_ ((p10.mono fun bb h1 h2 => hfar bb (by omega) (by omega) (by omega) (by omega)).leaf fun bb h1 h2 => notO bb (by omega) h2))
      refine .cons (.int _ _) (.cons (.int _ _) (.cons (.str _ q1) (.cons ?_ (.cons (.str _ q2) (.cons hcc .nil)))))
      exact row_of_owns (t := .attr) (ownsRow_mono q5 fun bb hb => hfar bb (by have := (q6.2 bb hb); omega) (by have := (q6.2 bb hb); omega) (by have := (q6.2 bb hb); omega) (by have := (q6.2 bb hb); omega)) (atCells_R q3) (fun bb hb => notO bb (by have := (q6.2 bb hb); omega) (by have := (q6.2 bb hb); omega)) q4
    cases ws with
    | nil =>
      obtain ⟨g', n', c', e, rfl, hx⟩ := h
      cases e
      injection hs with hs
      subst hs
      rw [Int.toNat_natCast, p7] at hx
      injection hx with hx
      subst hx
      have hg1 : W1.heap[g]? = w.heap[g]? := hW g (by omega) (by omega) fun e => by have := hvxb g e; have : g < lox := x3; omega
      have how := ownsRow_set (u := v') (ownsRow_mono (w' := W1) po fun bb hb => by injection (show some g = some bb from hb) with hb; rw [← hb]; exact hg1) (j := n * 6 + 5) (by rw [po.1]; omega)
      refine hdone v' hk (fun bb h1 h2 h3 h4 => ?_) ?_
      · rw [hset bb h4]
        refine hW bb h1 h2 fun e => ?_
        obtain ⟨mm, _, _, r1, _, r2⟩ := p8
        have := r1.2 bb e
        have := r2.le
        omega
      · rw [Int.toNat_natCast]
        have e1 : vs.set (n * 6 + 5) v' = vs.take (n * 6) ++ ([.int .i64 l[n].kind, .int .i64 l[n].space, .string l[n].name, c3, .string l[n].text, v'] ++ vs.drop ((n + 1) * 6)) := by
          have hlt : (vs.take (n * 6)).length = n * 6 := by rw [List.length_take, po.1]; omega
          conv => lhs; rw [← hvs]
          rw [List.set_append_right _ _ (by omega), hlt, show n * 6 + 5 - n * 6 = 5 by omega, q0]
          rfl
        rw [← e1]
        exact how
    | cons j ws =>
      obtain ⟨g', n', c', c5', e, hx, hp⟩ := h
      cases e
      rw [Int.toNat_natCast, p7] at hx
      injection hx with hx
      subst hx
      obtain ⟨lox', hix', y1, y2, y3, y4⟩ := hp.inn p8 hs
      have yb : ∀ bb, vx.ownBlock = some bb → lox' ≤ bb ∧ bb < hix' := fun bb hb => by
        obtain ⟨mm, _, _, r1, _, r2⟩ := y1
        have := r1.2 bb hb
        have := r2.le
        omega
      have yl := y1.le
      obtain ⟨us, z1, z2, z3⟩ := plug_row hX hk p8 hp hs (fun bb h1 h2 h3 => hW bb (by omega) (by omega) h3) (fun bb h1 h2 h3 => hO bb (by omega) (by omega) fun e => by injection (show some g = some bb from e) with e; omega)
      have hkl : l[n].kids.length ≤ maxSl := by obtain ⟨_, _, h, _⟩ := p8; exact h
      have hfar : ∀ bb, lo ≤ bb → bb < hi → ¬ (m ≤ bb ∧ bb < b) → (W1.setCell X v').heap[bb]? = w.heap[bb]? := fun bb h1 h2 h3 => by
        rw [hset bb (by omega)]
        exact hW bb h1 h2 fun e => by have := yb bb e; omega
      refine hdone c5 (row_of_owns (t := .node) (by rw [z3]; exact z1) z2 (fun bb hb => ?_) (by rw [z3]; exact hkl)) (fun bb h1 h2 h3 _ => hfar bb h1 h2 h3) ?_
      · obtain ⟨mm, _, _, r1, _, r2⟩ := p8
        have := r1.2 bb hb
        have := r2.le
        exact hO bb (by omega) (by omega) fun e => by injection (show some g = some bb from e) with e; omega
      · rw [← q0, hvs]
        exact ownsRow_mono po fun bb hb => by
          injection (show some g = some bb from hb) with hb
          rw [← hb]
          exact hfar g (by omega) (by omega) (by omega)
end Go.Proofs.Ytmkjjopflncedaa.AX
end
section
namespace Go.Proofs.Ytmkjjopflncedaa.AX
open Go Go.Shelf Go.RowKit AXP
set_option linter.unusedVariables false
set_option linter.unusedSimpArgs false
set_option maxHeartbeats 8000000 in
set_option maxRecDepth 1000000 in
theorem in_calls (A : Option Addr) (n c : Nat) (i : Int) (w : World) : Calls Try.prog 88 #[.slice A n c, .int .i64 i] w fun e w' => e = .returned (.bool (decide (0 ≤ i) && decide (i < (n : Int)))) ∧ w' = w := by
  go_enter Try.func88, Try.ntmps88
  by_cases h : 0 ≤ i
  · go_wp2
    go_ret
    exact ⟨by simp [h], rfl⟩
  · go_wp2
    go_ret
    exact ⟨by rw [decide_eq_false (show ¬ 0 ≤ i by omega), Bool.false_and]; rfl, rfl⟩
/-- Where the loop stands. -/
structure LpI (w3 : World) (base gB : Nat) (vroot : Value) (l : List Nd) (ws : List Int) (X : Addr) (vx : Value) (xs : List Nd) : Prop where
  st : stepsW l ws = some xs
  spot : X.spot = none
  cell : w3.cell? X = some vx
  froz : w3.frozen? X = false
  path : (ws = [] ∧ X = ⟨gB, 0, none⟩ ∧ vx = vroot ∧ xs = l) ∨ (ws ≠ [] ∧ Path w3 vroot ws X vx)
  deep : ∃ lox hix, DRow w3 xs vx lox hix ∧ base ≤ lox ∧ hix ≤ gB
theorem Path.drew {w : World} : ∀ {ws : List Int} {v vx : Value} {X : Addr}, Path w v ws X vx → Path w.drew v ws X vx
  | [], _, _, _, h => h
  | [_], _, _, _, h => h
  | _ :: _ :: _, _, _, _, ⟨g, n, c, c5, h1, h2, h3⟩ => ⟨g, n, c, c5, h1, h2, h3.drew⟩
theorem DRow.drew {w : World} {l : List Nd} {v : Value} {lo hi : Nat} (h : DRow w l v lo hi) : DRow w.drew l v lo hi := DRow.mono (w := w) (w' := w.drew) (fun _ _ _ => rfl) h
theorem LpI.drew {w3 : World} {base gB : Nat} {vroot vx : Value} {l xs : List Nd} {ws : List Int} {X : Addr} (h : LpI w3 base gB vroot l ws X vx xs) : LpI w3.drew base gB vroot l ws X vx xs :=
  ⟨h.st, h.spot, h.cell, h.froz, h.path.imp id fun p => ⟨p.1, p.2.drew⟩, by obtain ⟨a, b, c, d⟩ := h.deep; exact ⟨a, b, c.drew, d⟩⟩
theorem LpI.down {w3 : World} {base gB : Nat} {vroot vx : Value} {l xs : List Nd} {ws : List Int} {X : Addr} (h : LpI w3 base gB vroot l ws X vx xs) {i : Int} (hi : inB xs i = true) : ∃ (n g c : Nat) (A5 : Option Addr) (c5 : Nat), i = (n : Int) ∧ vx = .slice (some ⟨g, 0, none⟩) xs.length c ∧ n < xs.length ∧ ∃ ys, ys = (xs.getD i.toNat default).kids ∧ LpI w3 base gB vroot l (ws ++ [i]) ⟨g, n * 6 + 5, none⟩ (.slice A5 ys.length c5) ys := by
  obtain ⟨n, rfl, hn⟩ := inB_nat hi
  obtain ⟨lox, hix, hD, hb, hg⟩ := h.deep
  obtain ⟨g, c, c5, vs, mid, a, m, b, e, p1, p2, p3, p4, p5, p6, po, p7, p7f, _, p8, _⟩ := hD.kid hn
  obtain ⟨A5, cap5, rfl⟩ : ∃ A5 cap5, c5 = .slice A5 xs[n].kids.length cap5 := by
    obtain ⟨_, _, _, _, ho, _⟩ := p8
    rcases ho.2 with ⟨rfl, hz⟩ | ⟨_, cap, _, rfl, _⟩
    · rw [hz]; exact ⟨none, 0, rfl⟩
    · exact ⟨_, _, rfl⟩
  refine ⟨n, g, c, A5, cap5, rfl, e, hn, xs[n].kids, by rw [getD_nat hn], ?_, rfl, p7, p7f, .inr ⟨by simp, ?_⟩, m, b, p8, by omega, by omega⟩
  · rw [stepsW_snoc h.st, if_pos hi, getD_nat hn]
  · rcases h.path with ⟨rfl, _, h2, h3⟩ | ⟨h1, h2⟩
    · exact ⟨g, xs.length, c, by rw [← h2]; exact e, by rw [Int.toNat_natCast], p7⟩
    · have := h2.snoc (i := (n : Int)) (c5 := .slice A5 xs[n].kids.length cap5) e (by rw [Int.toNat_natCast]; exact p7)
      rw [Int.toNat_natCast] at this
      exact this
theorem row_inv {w : World} {O : Nat → Prop} {I : Im} {v : Value} {t : Ty} {xs : List (den t)} (h : LeafR w O I v (.row t xs)) : xs = [] ∨ ∃ b off c, ∃ vs : List Value, v = .slice (some ⟨b, off, none⟩) xs.length c ∧ xs.length ≤ c ∧ xs.length ≤ maxSl ∧ (∀ (j : Nat) (u : Value), vs[j]? = some u → w.cell? ⟨b, off + j, none⟩ = some u) ∧ All2 (LeafR w O I) vs (cellsOf t xs) := by
  cases h with
  | row0 => exact .inl rfl
  | rowz ad c => exact .inl rfl
  | row b off c t xs vs h1 h2 h3 hv hl hr => exact .inr ⟨b, off, c, vs, rfl, h2, h3, hv, .of hl hr⟩
theorem int_cells {w : World} {O : Nat → Prop} {I : Im} {v : Value} {way : List Int} (h : LeafR w O I v (.row .int way)) (hw : way ≠ []) : ∃ b o c, v = .slice (some ⟨b, o, none⟩) way.length c ∧ way.length ≤ c ∧ way.length ≤ maxSl ∧ b < w.heap.size ∧ ∀ (j : Nat) (hj : j < way.length), w.cell? ⟨b, o + j, none⟩ = some (.int .i64 way[j]) := by
  have hall : ∀ (l : List Int) (j : Nat) (hj : j < l.length), (cellsOf .int l)[j]? = some (AV.int .i64 l[j]) := by
    intro l
    induction l with
    | nil => intro j hj; cases hj
    | cons x l ih =>
      intro j hj
      cases j with
      | zero => rfl
      | succ j => exact ih j (by simpa using hj)
  rcases row_inv h with e | ⟨b, off, c, vs, rfl, h2, h3, hv, hr⟩
  · exact absurd e hw
  · have hlen : vs.length = way.length := by
      rw [hr.length, cellsOf_length]; exact Nat.mul_one _
    have cell : ∀ (j : Nat) (hj : j < way.length), w.cell? ⟨b, off + j, none⟩ = some (.int .i64 way[j]) := fun j hj => by
      have hj' : j < vs.length := by omega
      have e1 := hv j vs[j] (List.getElem?_eq_getElem hj')
      obtain ⟨u, hu, e2⟩ := hr.get (hall way j hj)
      cases e2
      rw [List.getElem?_eq_getElem hj'] at hu
      injection hu with hu
      rw [e1, hu]
    have hpos : 0 < way.length := List.length_pos_iff.2 hw
    exact ⟨b, off, c, rfl, h2, h3, World.block_lt_of_cell? w _ (cell 0 hpos), cell⟩
/-- What keys.turn answers, and leaves. -/
def TurnPost (w : World) (l : List Nd) (ws : List Int) (Post : World → Nat → Addr → Value → Value → List Nd → Value → World → Prop) (e : Ending) (w' : World) : Prop :=
  (stepsW l ws = none ∧ e = .returned (.tuple #[.slice none 0 0, .bool false]) ∧ w.grownBy w' none) ∨
  (∃ w3 gB vroot X vx xs lox hix v' W1, w.grownBy w3 none ∧ w.heap.size ≤ gB ∧ gB < w3.heap.size ∧ DRow w3 l vroot w.heap.size gB ∧ LpI w3 w.heap.size gB vroot l ws X vx xs ∧ DRow w3 xs vx lox hix ∧ w.heap.size ≤ lox ∧ hix ≤ gB ∧ Post w3 gB X vroot vx xs v' W1 ∧ w' = W1.setCell X v' ∧ e = .returned (.tuple #[if ws = [] then v' else vroot, .bool true]))
set_option maxHeartbeats 16000000 in
set_option maxRecDepth 1000000 in
theorem turn_walk (f : Nat) (cs : Array Value) (l : List Nd) (ws : List Int) (last : Int) (v0 vw : Value) (O : Nat → Prop) (I : Im) (w : World) (hf : ∀ args w, (callFunc f args).run Try.prog w = .ok (.enter f args) w) (hl : LeafR w noO noI v0 (.row .node l)) (hway : LeafR w O I vw (.row .int (ws ++ [last]))) (hfit : fitNds l)
    (Post : World → Nat → Addr → Value → Value → List Nd → Value → World → Prop)
    (hcall : ∀ w3 gB X vroot A cap xs lox hix, w.grownBy w3 none → w.heap.size ≤ gB → gB < w3.heap.size → DRow w3 l vroot w.heap.size gB → LpI w3 w.heap.size gB vroot l ws X (.slice A xs.length cap) xs → DRow w3 xs (.slice A xs.length cap) lox hix → w.heap.size ≤ lox → hix ≤ gB →
      Calls Try.prog f (#[.slice A xs.length cap, .int .i64 last] ++ cs) w3 fun e W1 => ∃ A' n' cap', e = .returned (.slice A' n' cap') ∧ Post w3 gB X vroot (.slice A xs.length cap) xs (.slice A' n' cap') W1 ∧ (∀ b, w.heap.size ≤ b → b < w3.heap.size → (Value.slice A xs.length cap).ownBlock ≠ some b → W1.heap[b]? = w3.heap[b]?)) :
    Calls Try.prog 84 #[v0, vw, .func (.func f) #[] cs] w (TurnPost w l ws Post) := by
  obtain ⟨bw, ow, cw, rfl, hwc, hwm, hbw, hwcell⟩ := int_cells hway (by simp)
  have hC := copy_deep (szNds l + 1) l w v0 (Nat.lt_succ_self _) hfit hl
  have HC : Hid (Calls Try.prog 36 #[v0] w fun e w2 => ∃ A cap, e = .returned (.slice A l.length cap) ∧ w.heap.size ≤ w2.heap.size ∧ Hid (DRow w2 l (.slice A l.length cap) w.heap.size w2.heap.size ∧ w.grownBy w2 none)) := by
    refine hC.mono ?_
    rintro e w2 ⟨v', rfl, hd, hg⟩
    obtain ⟨A, cap, rfl⟩ : ∃ A cap, v' = .slice A l.length cap := by
      obtain ⟨_, _, _, _, ho, _⟩ := hd
      rcases ho.2 with ⟨rfl, hz⟩ | ⟨_, cap, _, rfl, _⟩
      · rw [hz]; exact ⟨none, 0, rfl⟩
      · exact ⟨_, _, rfl⟩
    exact ⟨A, cap, rfl, hg.size, ⟨hd, hg⟩⟩
  have HW : Hid (∀ (j : Nat) (hj : j < (ws ++ [last]).length), w.cell? ⟨bw, ow + j, none⟩ = some (.int .i64 (ws ++ [last])[j])) := hwcell
  have HCALL := (⟨hcall⟩ : PLift _)
  have hlen : (ws ++ [last]).length = ws.length + 1 := by simp
  rw [hlen] at hwc hwm ⊢
  have hwm63 : ws.length + 1 ≤ 140737488355328 := hwm
  clear hC hway hl hfit hwcell hcall
  go_enter Try.func84, Try.ntmps84
  go_wp2_with (go_at_call 36; refine HC.out.mono ?_; rintro e w2 ⟨A, cap, rfl, hsz2, hD⟩)
  have H3 : Hid (w.grownBy (w2.alloc (.cells #[.slice A l.length cap] 22)) none) := by
    obtain ⟨_, hg⟩ := hD.out
    exact (⟨hg.os, hg.tape, hg.output, by have := hg.size; simp; omega, fun k hk hn => (Go.heap_alloc_old w2 _ (r := k) (by have := hg.size; omega)).trans (hg.block k hk hn)⟩ : w.grownBy (w2.alloc (.cells #[.slice A l.length cap] 22)) none)
  have D3 : Hid (DRow (w2.alloc (.cells #[.slice A l.length cap] 22)) l (.slice A l.length cap) w.heap.size w2.heap.size) := hD.out.1.mono fun b h1 h2 => Go.heap_alloc_old w2 _ (r := b) h2
  have HB3 : Hid ((w2.alloc (.cells #[.slice A l.length cap] 22)).heap[w2.heap.size]? = some (.cells #[.slice A l.length cap] 22 (0, 0))) := heap_alloc_new w2 _
  have HW3 : Hid (∀ (j : Nat) (hj : j < (ws ++ [last]).length), (w2.alloc (.cells #[.slice A l.length cap] 22)).cell? ⟨bw, ow + j, none⟩ = some (.int .i64 (ws ++ [last])[j])) := fun j hj => (World.cell?_of_block (H3.out.block bw hbw (fun e => nomatch e))).trans (HW.out j hj)
  have L3 : Hid (LpI (w2.alloc (.cells #[.slice A l.length cap] 22)) w.heap.size w2.heap.size (.slice A l.length cap) l [] ⟨w2.heap.size, 0, none⟩ (.slice A l.length cap) l) :=
    (⟨rfl, rfl, cell_of HB3.out (i := 0) (by simp), frozen_of HB3.out 0, .inl ⟨rfl, rfl, rfl, rfl⟩, _, _, D3.out, Nat.le_refl _, Nat.le_refl _⟩ : LpI _ _ _ _ _ _ _ _ _)
  go_loopg [9, 11, 20] ws.length (fun gg s9 _ s20 wr => ∃ (q : Nat) (X : Addr) (A' : Option Addr) (cap' : Nat) (xs : List Nd), q ≤ ws.length ∧ ws.length - q ≤ gg ∧ s9 = .pointer (some X) ∧ s20 = .int .i64 q ∧ wr = w2.alloc (.cells #[.slice A l.length cap] 22) ∧ Hid (LpI (w2.alloc (.cells #[.slice A l.length cap] 22)) w.heap.size w2.heap.size (.slice A l.length cap) l (ws.take q) X (.slice A' xs.length cap') xs))
  case atStart => exact ⟨0, _, A, cap, l, Nat.zero_le _, by omega, rfl, rfl, rfl, L3⟩
  case round =>
    obtain ⟨q, X, A', cap', xs, hq, hg, rfl, rfl, rfl, HI⟩ := hrel
    obtain ⟨xb, xo, xspot⟩ := X
    obtain rfl : xspot = none := HI.out.spot
    have cX := HI.out.cell
    have fX := HI.out.froz
    by_cases hlt : q < ws.length
    · have hltz : (q : Int) < (ws.length : Int) := by omega
      have hix := HW3.out q (by simp; omega)
      have hg0 : (ws ++ [last])[q]'(by simp; omega) = ws[q] := List.getElem_append_left hlt
      rw [hg0] at hix
      have hq63 : (q : Int) + 1 ≤ 9223372036854775807 := by omega
      have htk : ws.take (q + 1) = ws.take q ++ [ws[q]] := (List.take_append_getElem hlt).symm
      cases hin : inB xs ws[q] with
      | false =>
        have HIN : Hid (∀ w, Calls Try.prog 88 #[.slice A' xs.length cap', .int .i64 ws[q]] w fun e w' => e = .returned (.bool false) ∧ w' = w) := fun w => (in_calls A' xs.length cap' ws[q] w).mono (by rintro e w' ⟨rfl, rfl⟩; exact ⟨congrArg (fun b => Ending.returned (Value.bool b)) hin, rfl⟩)
        have HNO : Hid (stepsW l ws = none) := by
          have e := stepsW_snoc (i := ws[q]) HI.out.st
          rw [hin, if_neg (by decide), ← htk] at e
          have := stepsW_none (ws' := ws.drop (q + 1)) e
          rw [List.take_append_drop] at this
          exact this
        clear hin htk hg0
        generalize ws[q] = wq at hix HIN
        go_wp2_with (go_at_call 88; refine (HIN.out _).mono ?_; rintro e w9 ⟨rfl, rfl⟩)
        go_ret2
        exact .inl ⟨HNO.out, rfl, H3.out⟩
      | true =>
        have HIN : Hid (∀ w, Calls Try.prog 88 #[.slice A' xs.length cap', .int .i64 ws[q]] w fun e w' => e = .returned (.bool true) ∧ w' = w) := fun w => (in_calls A' xs.length cap' ws[q] w).mono (by rintro e w' ⟨rfl, rfl⟩; exact ⟨congrArg (fun b => Ending.returned (Value.bool b)) hin, rfl⟩)
        obtain ⟨n, g, c, A5, c5, hn, hA, hnl, ys, _, hL⟩ := HI.out.down hin
        rw [← htk] at hL
        have HL : Hid (LpI (w2.alloc (.cells #[.slice A l.length cap] 22)) w.heap.size w2.heap.size (.slice A l.length cap) l (ws.take (q + 1)) ⟨g, n * 6 + 5, none⟩ (.slice A5 ys.length c5) ys) := hL
        cases hA
        rw [hn] at hix HIN
        have hnz : (n : Int) < (xs.length : Int) := by omega
        have hn0 : (0 : Int) ≤ (n : Int) := by omega
        clear hin htk hg0 hL hn
        go_wp2_with (go_at_call 88; refine (HIN.out _).mono ?_; rintro e w9 ⟨rfl, rfl⟩)
        go_roundg (ws.length - (q + 1))
        case measure => omega
        case rel => exact ⟨q + 1, _, A5, c5, ys, by omega, by omega, rfl, congrArg (Value.int .i64) (by omega), rfl, HL⟩
    · have hqe : q = ws.length := by omega
      subst hqe
      have hltz : ¬ (ws.length : Int) < (ws.length : Int) := by omega
      rw [List.take_length] at HI
      have hix := HW3.out ws.length (by simp)
      have hge : (ws ++ [last])[ws.length]'(by simp) = last := by simp
      rw [hge] at hix
      obtain ⟨lox, hix', hDx, hlo, hhi⟩ := HI.out.deep
      have hvb : ∀ b, (Value.slice A' xs.length cap').ownBlock = some b → lox ≤ b ∧ b < hix' := fun b hb => by
        obtain ⟨mm, _, _, r1, _, r2⟩ := hDx
        have := r1.2 b hb
        have := r2.le
        omega
      have hs3 : w2.heap.size < (w2.alloc (.cells #[.slice A l.length cap] 22)).heap.size := by simp
      have hG3 : w.grownBy (w2.alloc (.cells #[.slice A l.length cap] 22)).drew none := ⟨H3.out.os, H3.out.tape, H3.out.output, H3.out.size, H3.out.block⟩
      have hCF := HCALL.down _ w2.heap.size ⟨xb, xo, none⟩ (.slice A l.length cap) A' cap' xs lox hix' hG3 hsz2 hs3 D3.out.drew HI.out.drew hDx.drew hlo hhi
      have hp0 : (0 : Int) ≤ (ws.length : Int) := by omega
      have hwl : (ws.length : Int) < (ws.length : Int) + 1 := by omega
      have HDX : Hid (DRow (w2.alloc (.cells #[.slice A l.length cap] 22)) xs (.slice A' xs.length cap') lox hix' ∧ w.heap.size ≤ lox ∧ hix' ≤ w2.heap.size) := ⟨hDx, hlo, hhi⟩
      by_cases hws : ws = []
      · rcases HI.out.path with ⟨_, eX, ev, rfl⟩ | ⟨hne, _⟩
        case inr => exact absurd hws hne
        cases eX
        cases ev
        have HCF : Hid (Calls Try.prog f (#[.slice A xs.length cap, .int .i64 last] ++ cs) (w2.alloc (.cells #[.slice A xs.length cap] 22)).drew fun e W1 => ∃ A2 n2 cap2, e = .returned (.slice A2 n2 cap2) ∧ W1.cell? ⟨w2.heap.size, 0, none⟩ = some (.slice A xs.length cap) ∧ W1.frozen? ⟨w2.heap.size, 0, none⟩ = false ∧
            Hid (Post (w2.alloc (.cells #[.slice A xs.length cap] 22)).drew w2.heap.size ⟨w2.heap.size, 0, none⟩ (.slice A xs.length cap) (.slice A xs.length cap) xs (.slice A2 n2 cap2) W1)) := by
          refine hCF.mono ?_
          rintro e W1 ⟨A2, n2, cap2, rfl, hP, hfr⟩
          have hb := hfr w2.heap.size hsz2 hs3 fun e => by have := hvb _ e; omega
          exact ⟨A2, n2, cap2, rfl, (World.cell?_of_block hb).trans cX, (World.frozen?_of_block hb).trans fX, hP⟩
        clear hCF hvb hDx hge HCALL
        have mixed : Try.prog.follows Departure.mixedOrders = true := by kernel_rfl
        have hw0 : IntKind.i64.wrap 0 = 0 := by decide
        have hix0 : (w2.alloc (.cells #[.slice A xs.length cap] 22)).cell? ⟨bw, ow, none⟩ = some (.int .i64 last) := by rw [hws] at hix; exact hix
        go_wp2_with fail
        go_region_with (refine HCF.out.mono ?_; rintro e W1 ⟨A2, n2, cap2, rfl, y1, y2, HP⟩)
        all_goals
          go_wp2
          go_ret2
          refine .inr ⟨(w2.alloc (.cells #[.slice A xs.length cap] 22)).drew, w2.heap.size, _, ⟨w2.heap.size, 0, none⟩, _, xs, lox, hix', _, W1, ⟨H3.out.os, H3.out.tape, H3.out.output, H3.out.size, H3.out.block⟩, hsz2, hs3, D3.out.drew, ?_, HDX.out.1.drew, HDX.out.2.1, HDX.out.2.2, HP.out, rfl, ?_⟩
          · have := HI.out.drew
            first | exact this | (rw [hws] at this; exact this)
          · rw [if_pos hws]; rfl
      · have HNE : Hid (ws ≠ []) := hws
        have hpth : Path (w2.alloc (.cells #[.slice A l.length cap] 22)) (.slice A l.length cap) ws ⟨xb, xo, none⟩ (.slice A' xs.length cap') := by
          rcases HI.out.path with ⟨h, _⟩ | ⟨_, h⟩
          · exact absurd h hws
          · exact h
        obtain ⟨_, _, _, hxb1, hxb2, hxb3⟩ := hpth.inn D3.out HI.out.st
        have hxlt : xb < w2.heap.size := by
          obtain ⟨lo2, hi2, d1, d2, d3, d4⟩ := hpth.inn D3.out HI.out.st
          have : xb < lo2 := d3
          have := d1.le
          omega
        have hxge : w.heap.size ≤ xb := hxb1
        have hneb : xb ≠ w2.heap.size := by omega
        have hneb' : w2.heap.size ≠ xb := by omega
        have HCF : Hid (Calls Try.prog f (#[.slice A' xs.length cap', .int .i64 last] ++ cs) (w2.alloc (.cells #[.slice A l.length cap] 22)).drew fun e W1 => ∃ A2 n2 cap2, e = .returned (.slice A2 n2 cap2) ∧ W1.cell? ⟨xb, xo, none⟩ = some (.slice A' xs.length cap') ∧ W1.frozen? ⟨xb, xo, none⟩ = false ∧ W1.cell? ⟨w2.heap.size, 0, none⟩ = some (.slice A l.length cap) ∧
            Hid (Post (w2.alloc (.cells #[.slice A l.length cap] 22)).drew w2.heap.size ⟨xb, xo, none⟩ (.slice A l.length cap) (.slice A' xs.length cap') xs (.slice A2 n2 cap2) W1)) := by
          refine hCF.mono ?_
          rintro e W1 ⟨A2, n2, cap2, rfl, hP, hfr⟩
          have hb0 := hfr w2.heap.size hsz2 hs3 fun e => by have := hvb _ e; omega
          have hb := hfr xb hxge (by have : xb < w2.heap.size + 1 := by omega
                                     simpa using this) fun e => by
            have h1 := hvb _ e
            rcases HI.out.path with ⟨h, _⟩ | ⟨_, h⟩
            · exact hws h
            · obtain ⟨lo2, hi2, d1, d2, d3, d4⟩ := h.inn D3.out HI.out.st
              obtain ⟨mm, _, _, r1, _, r2⟩ := d1
              have h2 := r1.2 _ e
              have : xb < lo2 := d3
              omega
          exact ⟨A2, n2, cap2, rfl, (World.cell?_of_block hb).trans cX, (World.frozen?_of_block hb).trans fX, (World.cell?_of_block hb0).trans (cell_of HB3.out (i := 0) (by simp)), hP⟩
        clear hCF hvb hDx hge HCALL hxb1 hxb2 hxb3 hpth hws
        have mixed : Try.prog.follows Departure.mixedOrders = true := by kernel_rfl
        have hw1 : IntKind.i64.wrap (ws.length : Int) = ws.length := by rw [IntKind.wrap_i64]; omega
        go_wp2_with fail
        go_region_with (refine HCF.out.mono ?_; rintro e W1 ⟨A2, n2, cap2, rfl, y1, y2, y3, HP⟩)
        all_goals
          go_wp2
          go_ret2
          refine .inr ⟨(w2.alloc (.cells #[.slice A l.length cap] 22)).drew, w2.heap.size, _, ⟨xb, xo, none⟩, _, xs, lox, hix', _, W1, ⟨H3.out.os, H3.out.tape, H3.out.output, H3.out.size, H3.out.block⟩, hsz2, hs3, D3.out.drew, HI.out.drew, HDX.out.1.drew, HDX.out.2.1, HDX.out.2.2, HP.out, rfl, ?_⟩
          rw [if_neg HNE.out]; rfl
end Go.Proofs.Ytmkjjopflncedaa.AX
end
section
namespace Go.Proofs.Ytmkjjopflncedaa.AX
open Go Go.RowKit AXP
set_option linter.unusedVariables false
set_option maxRecDepth 100000
theorem Path.root {w : World} : ∀ {ws : List Int} {l xs : List Nd} {v vx : Value} {X : Addr} {lo hi : Nat}, DRow w l v lo hi → Path w v ws X vx → stepsW l ws = some xs → ∀ b, v.ownBlock = some b → b ≤ X.block
  | [], l, xs, v, vx, X, lo, hi, _, h, _ => h.elim
  | [i], l, xs, v, vx, X, lo, hi, hD, h, hs => by
    obtain ⟨g', n', c', rfl, rfl, hx⟩ := h
    intro b hb
    injection (show some g' = some b from hb) with hb
    rw [← hb]; exact Nat.le_refl g'
  | i :: j :: ws, l, xs, v, vx, X, lo, hi, hD, h, hs => by
    rw [stepsW] at hs
    split at hs
    case isFalse => cases hs
    rename_i hin
    obtain ⟨n, rfl, hn⟩ := inB_nat hin
    rw [getD_nat hn] at hs
    obtain ⟨g, c, c5, vs, mid, a, m, b, rfl, p1, p2, p3, p4, p5, p6, _, p7, _, _, p8, _⟩ := hD.kid hn
    obtain ⟨g', n', c', c5', e, hx, hp⟩ := h
    cases e
    rw [Int.toNat_natCast, p7] at hx
    injection hx with hx
    subst hx
    obtain ⟨lox, hix, q1, q2, q3, q4⟩ := hp.inn p8 hs
    intro b hb
    injection (show some g = some b from hb) with hb
    omega
/-- Pieces that are variables, and name no other piece. -/
def PureBox (b : Blk) : Prop := ∃ cells, b = .box cells ∧ ∀ a ∈ cells, pureL a
theorem LeafR.pmono {w w' : World} {O O' : Nat → Prop} {I I' : Im} (hw : ∀ b, ¬ O b → b < w.heap.size → w'.heap[b]? = w.heap[b]?) (hO : ∀ b, b < w.heap.size → O' b → O b) {v : Value} {a : AV} (h : LeafR w O I v a) (hp : pureL a) : LeafR w' O' I' v a :=
  (h.mono (O' := O') hw hO (ImLe.refl I)).pure (fun _ h => h) hp
theorem HRel.grown {tid : Ty → TypeId} {F : Nat → Prop} {I : Im} {hp : List (Option Blk)} {w w' : World} (hH : HRel tid F I hp w) (hg : w.grownBy w' none) : HRel tid F I hp w' := by
  refine ⟨fun id => ?_, hH.inj, hH.apart, fun i l b h1 h2 => Nat.lt_of_lt_of_le (hH.lt i l b h1 h2) hg.size, fun b hb => Nat.lt_of_lt_of_le (hH.out b hb) hg.size⟩
  have := hH.hp id
  generalize hp.getD id none = ob at this ⊢
  cases ob with
  | none => exact this
  | some b =>
    obtain ⟨l, h1, h2⟩ := this
    exact ⟨l, h1, h2.mono (fun b _ hb => hg.block b hb (fun e => nomatch e)) (fun _ _ h => h) (ImLe.refl I) fun g hgl => hg.block g (hH.lt id l g h1 hgl) (fun e => nomatch e)⟩
def shI (v : Value) (I : Im) : Im := fun i => match i with
  | 0 => some (.row 0 .node v)
  | i + 1 => I i
def outF (F : Nat → Prop) (lo hi a b : Nat) : Nat → Prop := fun k => F k ∨ (lo ≤ k ∧ k < hi ∧ ¬ (a ≤ k ∧ k < b))
/-- What the call at the way's end says. -/
structure EndP (tid : Ty → TypeId) (F : Nat → Prop) (I : Im) (w : World) (C C' : List Blk) (g : List Nd → List Nd) (w3 : World) (vx : Value) (xs : List Nd) (lox hix : Nat) (v' : Value) (W1 : World) (I5 : Im) : Prop where
  hr : HRel tid (outF F w.heap.size w3.heap.size lox hix) I5 ((.rowb 0 .node (g xs) :: C').map some) W1
  zero : I5 0 = some (.row 0 .node v')
  kept : ∀ i b, i < C.length → I i = some (.box b) → I5 (i + 1) = some (.box b)
  place : ∀ i l b, I5 i = some l → l.has b → (∃ j l0, shI vx I j = some l0 ∧ l0.has b) ∨ w3.heap.size ≤ b
  os : W1.os = w3.os
  tape : W1.tape = w3.tape
  output : W1.output = w3.output
  size : w3.heap.size ≤ W1.heap.size
  frame : ∀ b, b < w3.heap.size → (∀ i l, shI vx I i = some l → ¬ l.has b) → W1.heap[b]? = w3.heap[b]?
theorem turn_meets {f : Nat} {caps : List AV} {C C' : List Blk} {g : List Nd → List Nd} {l : List Nd} {ws : List Int} {last : Int} (hC : ∀ b ∈ C, PureBox b) (hC' : ∀ b ∈ C', PureBox b) (hlen : C'.length = C.length) (hcaps : caps = (List.range C.length).map fun i => AV.ptr i 0) (hent : entB Try.prog f = true) (hfit : fitNds l)
    (hclos : ∀ xs, stepsW l ws = some xs → Meets cx0 f (.own 0 0 :: .int .i64 last :: (List.range C.length).map fun i => AV.ptr (i + 1) 0) (.rowb 0 .node xs :: C) { res := .own 0 0, hp := .rowb 0 .node (g xs) :: C' }) :
    (stepsW l ws = none → Meets cx0 84 [.row .node l, .row .int (ws ++ [last]), .fn f caps] C { res := .tup [.own C.length 0, .bool false], hp := C, extra := [.rowb 0 .node []] }) ∧
    (∀ xs, stepsW l ws = some xs → Meets cx0 84 [.row .node l, .row .int (ws ++ [last]), .fn f caps] C { res := .tup [.own C.length 0, .bool true], hp := C', extra := [.rowb 0 .node (plugS l ws (g xs))] }) := by
  have key : ∀ (F : Nat → Prop) (I : Im) (w : World) (vals : List Value), HRel cx0.tid F I (C.map some) w → All2 (ValR1 w (Own F I) I) vals [.row .node l, .row .int (ws ++ [last]), .fn f caps] →
      Calls Try.prog 84 vals.toArray w (TurnPost w l ws fun w3 gB X vroot vx xs v' W1 => ∃ lox hix I5, DRow w3 xs vx lox hix ∧ w.heap.size ≤ lox ∧ hix ≤ gB ∧ ¬ (lox ≤ X.block ∧ X.block < hix) ∧ (ws ≠ [] → ∀ b, vroot.ownBlock = some b → ¬ (lox ≤ b ∧ b < hix)) ∧ EndP cx0.tid F I w C C' g w3 vx xs lox hix v' W1 I5) := by
    intro F I w vals hH hv
    cases hv with | cons a0 hv => cases hv with | cons a1 hv => cases hv with | cons a2 hv =>
    cases hv
    obtain ⟨cs, hcs, hall⟩ := (show ValR w (Own F I) I _ (.fn f caps) from .of1 a2).fn
    rw [hcs]
    refine turn_walk f cs.toArray l ws last _ _ (Own F I) I w (fun args w => enter_of hent args w) ((show LeafR w (Own F I) I _ (.row .node l) from a0).pure (fun b h => h.elim) trivial) a1 hfit _ ?_
    intro w3 gB X vroot A cap xs _ _ hg3 hgB hgB3 hDr hL _ _ _
    obtain ⟨lox, hix, hDx, hlo, hhi, hXn, hrn⟩ : ∃ lox hix, DRow w3 xs (.slice A xs.length cap) lox hix ∧ w.heap.size ≤ lox ∧ hix ≤ gB ∧ ¬ (lox ≤ X.block ∧ X.block < hix) ∧ (ws ≠ [] → ∀ b, vroot.ownBlock = some b → ¬ (lox ≤ b ∧ b < hix)) := by
      rcases hL.path with ⟨h0, hX, hv, hx⟩ | ⟨h0, hp⟩
      · refine ⟨w.heap.size, gB, by rw [hv, hx]; exact hDr, Nat.le_refl _, Nat.le_refl _, ?_, fun h => absurd h0 h⟩
        rw [hX]
        exact fun h => Nat.lt_irrefl gB h.2
      · obtain ⟨lox, hix, q1, q2, q3, q4⟩ := hp.inn hDr hL.st
        exact ⟨lox, hix, q1, by omega, q4, by omega, fun _ b hb => by have := hp.root hDr hL.st b hb; omega⟩
    have hDx0 := hDx
    have hIlt : ∀ i l b, I i = some l → l.has b → b < w.heap.size := fun i l b h1 h2 => hH.lt i l b h1 h2
    have hFlt : ∀ b, F b → b < w.heap.size := hH.out
    have hz3 := hg3.size
    obtain ⟨mid, vs, d0, d1, d2, d3⟩ := hDx
    have d3l := d3.le
    have d1l := d1.1
    have hvb : ∀ b, (Value.slice A xs.length cap).ownBlock = some b → lox ≤ b ∧ b < mid := d1.2
    have hOlow : ∀ b, b < w.heap.size → Own (outF F w.heap.size w3.heap.size lox hix) (shI (.slice A xs.length cap) I) b → Own F I b := by
      intro b hb h
      rcases h with (h | h) | ⟨i, l0, h1, h2⟩
      · exact .inl h
      · omega
      · cases i with
        | zero =>
          injection h1 with h1
          subst h1
          have := hvb b h2
          omega
        | succ i => exact .inr ⟨i, l0, h1, h2⟩
    have hH4 : HRel cx0.tid (outF F w.heap.size w3.heap.size lox hix) (shI (.slice A xs.length cap) I) ((.rowb 0 .node xs :: C).map some) w3 := by
      refine ⟨fun id => ?_, ?_, ?_, ?_, ?_⟩
      · cases id with
        | zero =>
          refine ⟨_, rfl, _, vs, rfl, d0, d2, d3.leaf fun b h1 h2 h => ?_⟩
          rcases h with (h | h) | ⟨i, l0, h3, h4⟩
          · have := hFlt b h; omega
          · have := d1.1; omega
          · cases i with
            | zero => injection h3 with h3; subst h3; have := hvb b h4; omega
            | succ i => have := hIlt i l0 b h3 h4; omega
        | succ i =>
          have e : ((.rowb 0 .node xs :: C).map some).getD (i + 1) none = (C.map some).getD i none := by simp [List.getD_eq_getElem?_getD]
          rw [e]
          have := hH.hp i
          cases hb : (C.map some).getD i none with
          | none => rw [hb] at this; exact this
          | some b =>
            rw [hb] at this
            obtain ⟨l0, h0, h1⟩ := this
            have hm : b ∈ C := by
              rw [List.getD_eq_getElem?_getD, List.getElem?_map] at hb
              cases hx : C[i]? with
              | none => rw [hx] at hb; cases hb
              | some b' => rw [hx] at hb; cases hb; exact List.mem_of_getElem? hx
            obtain ⟨cells, rfl, hpu⟩ := hC b hm
            obtain ⟨gg, csx, ty, rfl, hgg, hal⟩ := h1
            refine ⟨_, h0, gg, csx, ty, rfl, (hg3.block gg (hIlt i _ gg h0 rfl) (fun e => nomatch e)).trans hgg, .of hal.length fun j u x hu hx => ?_⟩
            obtain ⟨y, hy, hr⟩ := hal.get' hu
            rw [hx] at hy; injection hy with hy; subst hy
            exact hr.pmono (fun b _ hb => hg3.block b hb (fun e => nomatch e)) hOlow (hpu x (List.mem_of_getElem? hx))
      · intro i j l0 l1 b h1 h2 h3 h4
        cases i with
        | zero =>
          cases j with
          | zero => rfl
          | succ j => injection h1 with h1; subst h1; have := hvb b h3; have := hIlt j l1 b h2 h4; omega
        | succ i =>
          cases j with
          | zero => injection h2 with h2; subst h2; have := hvb b h4; have := hIlt i l0 b h1 h3; omega
          | succ j => rw [hH.inj i j l0 l1 b h1 h2 h3 h4]
      · intro i l0 b h1 h2 h3
        cases i with
        | zero =>
          injection h1 with h1; subst h1
          have := hvb b h2
          rcases h3 with h3 | h3
          · have := hFlt b h3; omega
          · omega
        | succ i =>
          have := hIlt i l0 b h1 h2
          rcases h3 with h3 | h3
          · exact hH.apart i l0 b h1 h2 h3
          · omega
      · intro i l0 b h1 h2
        cases i with
        | zero => injection h1 with h1; subst h1; have := hvb b h2; omega
        | succ i => have := hIlt i l0 b h1 h2; omega
      · intro b hb
        rcases hb with hb | hb
        · have := hFlt b hb; omega
        · exact hb.2.1
    have hcs5 : All2 (ValR1 w3 (Own (outF F w.heap.size w3.heap.size lox hix) (shI (.slice A xs.length cap) I)) (shI (.slice A xs.length cap) I)) cs ((List.range C.length).map fun i => AV.ptr (i + 1) 0) := by
      rw [hcaps] at hall
      refine .of (by rw [hall.length]; simp) fun j u x hu hx => ?_
      simp only [List.getElem?_map, Option.map_eq_some_iff] at hx
      obtain ⟨k, hk, rfl⟩ := hx
      obtain ⟨u', hu', hr⟩ := hall.get (i := j) (b := AV.ptr k 0) (by simp [hk])
      rw [hu] at hu'; injection hu' with hu'; subst hu'
      obtain ⟨z0, z1, z2, z3⟩ := (ValR.leaf hr).ptr
      exact .leaf (.ptr u (k + 1) 0 z0 z1 (fun b hb => z2 b hb) fun b v hb h0 => z3 b v hb h0)
    have hargs : All2 (ValR1 w3 (Own (outF F w.heap.size w3.heap.size lox hix) (shI (.slice A xs.length cap) I)) (shI (.slice A xs.length cap) I)) (.slice A xs.length cap :: .int .i64 last :: cs) (.own 0 0 :: .int .i64 last :: (List.range C.length).map fun i => AV.ptr (i + 1) 0) :=
      .cons (.leaf (own_new (t := .node) rfl rfl)) (.cons (.leaf (.int _ _)) hcs5)
    have hM := hclos xs hL.st _ _ w3 _ hH4 hargs (fun p hp => nomatch hp)
    have ea : (.slice A xs.length cap :: .int .i64 last :: cs : List Value).toArray = #[.slice A xs.length cap, .int .i64 last] ++ cs.toArray := by apply Array.ext'; simp
    rw [ea] at hM
    refine hM.mono ?_
    rintro e W1 ⟨v', I5, rfl, hres, hH5, _, hkeep, hplace, hos, htape, hout, hsz, hframe⟩
    obtain ⟨l0, hl0, vv, us, rfl, hmx, hown, hall5⟩ := hH5.hp 0
    have e1 := ((ValR.own hres).2.2 _ _ _ hl0).2 rfl
    subst e1
    obtain ⟨A', n', cap', rfl⟩ : ∃ A' n' cap', v' = .slice A' n' cap' := by
      rcases hown.2 with ⟨rfl, _⟩ | ⟨_, cap', _, rfl, _⟩
      · exact ⟨none, 0, 0, rfl⟩
      · exact ⟨_, _, _, rfl⟩
    refine ⟨A', n', cap', rfl, ⟨lox, hix, I5, hDx0, hlo, hhi, hXn, hrn, ?_, hl0, fun i b hi hb => (hkeep (i + 1) (by simpa using hi)).1 b hb, hplace, hos, htape, hout, hsz, hframe⟩, fun b h1 h2 h3 => hframe b h2 fun i l0 hi hh => ?_⟩
    · rw [show (.rowb 0 .node (g xs) :: C') = (.rowb 0 .node (g xs) :: C') ++ [] by simp]
      exact hH5
    · cases i with
      | zero => injection hi with hi; subst hi; exact h3 hh
      | succ i => have := hIlt i l0 b hi hh; omega
  refine ⟨fun hnone F I w vals hH hv _ => ?_, fun xs0 hsome F I w vals hH hv _ => ?_⟩
  · refine (key F I w vals hH hv).mono ?_
    rintro e w' (⟨_, rfl, hg⟩ | ⟨w3, gB, vroot, X, vx, xs, lox, hix, v', W1, _, _, _, _, hL, _⟩)
    · obtain ⟨I', h1, h2, h3, h4⟩ := want_new (hH.grown hg) .node
      rw [List.length_map] at h3 h4
      refine ⟨_, I', rfl, ⟨_, rfl, .cons (.leaf h3) (.cons (.leaf (.bool _)) .nil)⟩, by rw [List.map_append]; exact h1, fun p hp => (nomatch hp), fun i hi => ?_, fun i l b a1 a2 => .inl (h2.back i l b a1 a2), hg.os, hg.tape, hg.output, hg.size, fun b hb _ => hg.block b hb (fun e => nomatch e)⟩
      rw [h4 i hi]
      exact ⟨fun b h => h, fun b v h => ⟨v, h⟩, fun n t v h => ⟨n, t, v, h, fun h => (nomatch h)⟩⟩
    · have h0 := hL.st
      rw [hnone] at h0; cases h0
  · refine (key F I w vals hH hv).mono ?_
    rintro e w' (⟨hn, _⟩ | ⟨w3, gB, vroot, X, vx, xs, _, _, v', W1, hg3, hgB, hgB3, hDr, hL, _, _, _, ⟨lox, hix, I5, hDx, hlo, hhi, hXn, hrn, hP⟩, rfl, rfl⟩)
    · rw [hsome] at hn; cases hn
    have hst := hL.st
    rw [hsome] at hst; injection hst with hst; subst hst
    have hz3 := hg3.size
    have hIlt : ∀ i l b, I i = some l → l.has b → b < w.heap.size := fun i l b h1 h2 => hH.lt i l b h1 h2
    have hFlt : ∀ b, F b → b < w.heap.size := hH.out
    obtain ⟨mid, vs, d0, d1, d2, d3⟩ := hDx
    have d3l := d3.le
    have d1l := d1.1
    have hvb : ∀ b, vx.ownBlock = some b → lox ≤ b ∧ b < mid := d1.2
    obtain ⟨xb, xo, xspot⟩ := X
    obtain rfl : xspot = none := hL.spot
    have hxr : w.heap.size ≤ xb ∧ xb < w3.heap.size := by
      rcases hL.path with ⟨_, hX, _, _⟩ | ⟨_, hp⟩
      · injection hX with hX _ _; omega
      · obtain ⟨lo2, hi2, q1, q2, q3, q4⟩ := hp.inn hDr hL.st
        have := q1.le
        have q2 : w.heap.size ≤ xb := q2
        have q3 : xb < lo2 := q3
        omega
    have hxF : outF F w.heap.size w3.heap.size lox hix xb := .inr ⟨hxr.1, hxr.2, hXn⟩
    -- what lies in pieces
    have h5lt : ∀ i l b, I5 i = some l → l.has b → b ≠ xb := fun i l b h1 h2 e => hP.hr.apart i l b h1 h2 (by rw [e]; exact hxF)
    have h5box : ∀ i, i < C.length → ∃ b, I i = some (.box b) ∧ I5 (i + 1) = some (.box b) := fun i hi => by
      obtain ⟨cells, hc, _⟩ := hC C[i] (List.getElem_mem hi)
      have := hH.hp i
      have e : (C.map some).getD i none = some C[i] := by simp [List.getD_eq_getElem?_getD, hi]
      rw [e, hc] at this
      obtain ⟨l0, h0, gg, _, _, rfl, _⟩ := this
      exact ⟨gg, h0, hP.kept i gg hi h0⟩
    have hset : ∀ b, b ≠ xb → (W1.setCell ⟨xb, xo, none⟩ v').heap[b]? = W1.heap[b]? := fun b hb => setCell_ne _ _ _ _ _ hb
    have hW3 : ∀ b, w.heap.size ≤ b → b < w3.heap.size → vx.ownBlock ≠ some b → W1.heap[b]? = w3.heap[b]? := fun b h1 h2 h3 => hP.frame b h2 fun i l0 hi hh => by
      cases i with
      | zero => injection hi with hi; subst hi; exact h3 hh
      | succ i => have := hIlt i l0 b hi hh; omega
    obtain ⟨l0, hl0, vv, us, rfl, hmx, hown, hall5⟩ := hP.hr.hp 0
    rw [hP.zero] at hl0
    injection hl0 with hl0
    injection hl0 with _ _ hl0
    subst hl0
    have hv5 : ∀ b, v'.ownBlock = some b → b ≠ xb := fun b hb => h5lt 0 _ b hP.zero hb
    have hone' : v'.oneCell' = true := by rcases hown.2 with ⟨rfl, _⟩ | ⟨_, _, _, rfl, _⟩ <;> rfl
    -- the row that is handed back
    obtain ⟨vout, hvout⟩ : ∃ vout, vout = if ws = [] then v' else vroot := ⟨_, rfl⟩
    let I6 : Im := fun k => if k < C.length then I5 (k + 1) else if k = C.length then some (.row 0 .node vout) else none
    have i6lt : ∀ k, k < C.length → I6 k = I5 (k + 1) := fun k hk => if_pos hk
    have i6n : I6 C.length = some (.row 0 .node vout) := by show (if _ then _ else _) = _; rw [if_neg (Nat.lt_irrefl _), if_pos rfl]
    have i6ge : ∀ k, C.length < k → I6 k = none := fun k hk => by show (if _ then _ else _) = _; rw [if_neg (by omega), if_neg (by omega)]
    have i6 : ∀ k l, I6 k = some l → (k < C.length ∧ I5 (k + 1) = some l) ∨ (k = C.length ∧ l = .row 0 .node vout) := fun k l hk => by
      rcases Nat.lt_trichotomy k C.length with h | h | h
      · exact .inl ⟨h, by rw [← i6lt k h]; exact hk⟩
      · subst h; rw [i6n] at hk; injection hk with hk; exact .inr ⟨rfl, hk.symm⟩
      · rw [i6ge k h] at hk; cases hk
    have hvo : ∀ b, vout.ownBlock = some b → (ws = [] ∧ v'.ownBlock = some b) ∨ (ws ≠ [] ∧ vroot.ownBlock = some b ∧ outF F w.heap.size w3.heap.size lox hix b ∧ w.heap.size ≤ b ∧ b < gB) := fun b hb => by
      by_cases h : ws = []
      · rw [hvout, if_pos h] at hb; exact .inl ⟨h, hb⟩
      · rw [hvout, if_neg h] at hb
        obtain ⟨mm, _, _, r1, _, r2⟩ := hDr
        have h1 := r1.2 b hb
        have := r2.le
        exact .inr ⟨h, hb, .inr ⟨by omega, by omega, hrn h b hb⟩, by omega, by omega⟩
    have hO6 : ∀ b, Own F I6 b → Own (outF F w.heap.size w3.heap.size lox hix) I5 b := by
      intro b hb
      rcases hb with hb | ⟨k, l0, h1, h2⟩
      · exact .inl (.inl hb)
      · rcases i6 k l0 h1 with ⟨_, h3⟩ | ⟨_, rfl⟩
        · exact .inr ⟨_, l0, h3, h2⟩
        · rcases hvo b h2 with ⟨_, h3⟩ | ⟨_, _, h3, _⟩
          · exact .inr ⟨0, _, hP.zero, h3⟩
          · exact .inl h3
    have hboxlt : ∀ k b, k < C.length → I5 (k + 1) = some (.box b) → b < w.heap.size := fun k b hk hb => by
      obtain ⟨b', h1, h2⟩ := h5box k hk
      rw [h2] at hb; injection hb with hb; injection hb with hb
      rw [← hb]; exact hIlt k _ b' h1 rfl
    -- up : a value of W1 in the last world
    have up : ∀ {u : Value} {x : AV}, LeafR W1 (Own (outF F w.heap.size w3.heap.size lox hix) I5) I5 u x → pureL x → LeafR (W1.setCell ⟨xb, xo, none⟩ v') (Own F I6) I6 u x := fun h hp =>
      h.pmono (fun b hb _ => hset b fun e => hb (.inl (by rw [e]; exact hxF))) (fun b _ hb => hO6 b hb) hp
    have hfresh : ∀ b, w.heap.size ≤ b → Own F I6 b → vout.ownBlock = some b := by
      intro b h1 hb
      rcases hb with hb | ⟨k, l0, h2, h3⟩
      · have := hFlt b hb; omega
      · rcases i6 k l0 h2 with ⟨hk, h4⟩ | ⟨_, rfl⟩
        · obtain ⟨b', _, h5⟩ := h5box k hk
          rw [h5] at h4; injection h4 with h4; subst h4
          have := hboxlt k b' hk h5
          have h3 : b = b' := h3
          omega
        · exact h3
    have hus' : All2 (LeafR (W1.setCell ⟨xb, xo, none⟩ v') (Own F I6) I6) us (cellsOf .node (g xs0)) := .of hall5.length fun j u x hu hx => by
      obtain ⟨y, hy, hr⟩ := hall5.get' hu
      rw [hx] at hy; injection hy with hy; subst hy
      exact up hr (pure_cells .node _ x (List.mem_of_getElem? hx))
    have hown' : (W1.setCell ⟨xb, xo, none⟩ v').ownsRow 0 53 6 v' (g xs0).length us := ownsRow_mono hown fun b hb => hset b (hv5 b hb)
    have hrow : ∃ us, (W1.setCell ⟨xb, xo, none⟩ v').ownsRow 0 53 6 vout (plugS l ws (g xs0)).length us ∧ All2 (LeafR (W1.setCell ⟨xb, xo, none⟩ v') (Own F I6) I6) us (cellsOf .node (plugS l ws (g xs0))) ∧ (plugS l ws (g xs0)).length ≤ maxSl := by
      rcases hL.path with ⟨h0, _, _, hx⟩ | ⟨h0, hp⟩
      · rw [hvout, if_pos h0, h0]
        exact ⟨us, hown', hus', hmx⟩
      · rw [hvout, if_neg h0]
        have hnot : ∀ b, v'.ownBlock = some b → ¬ Own F I6 b := fun b hb ho => by
          rcases ho with ho | ⟨k, l0, h1, h2⟩
          · exact hP.hr.apart 0 _ b hP.zero hb (.inl ho)
          · rcases i6 k l0 h1 with ⟨_, h3⟩ | ⟨_, rfl⟩
            · have := hP.hr.inj 0 (k + 1) _ l0 b hP.zero h3 hb h2
              cases this
            · rcases hvo b h2 with ⟨h3, _⟩ | ⟨_, _, h3, _⟩
              · exact h0 h3
              · exact hP.hr.apart 0 _ b hP.zero hb h3
        have hleaf := row_of_owns (t := .node) hown' hus' hnot hmx
        obtain ⟨us2, z1, z2, z3⟩ := plug_row (X := ⟨xb, xo, none⟩) rfl hleaf hDr hp hL.st (fun b h1 h2 h3 => hW3 b h1 (by omega) h3) (fun b h1 h2 h3 ho => h3 (by have := hfresh b h1 ho; rw [hvout, if_neg h0] at this; exact this))
        have hll : l.length ≤ maxSl := by obtain ⟨_, _, h, _⟩ := hDr; exact h
        exact ⟨us2, by rw [z3]; exact z1, z2, by rw [z3]; exact hll⟩
    obtain ⟨us6, hown6, hall6, hmx6⟩ := hrow
    have hone6 : vout.oneCell' = true := by rcases hown6.2 with ⟨h, _⟩ | ⟨_, _, _, h, _⟩ <;> rw [h] <;> rfl
    have hvolt : ∀ b, vout.ownBlock = some b → b < (W1.setCell ⟨xb, xo, none⟩ v').heap.size := fun b hb => (hown6.lt b hb).2
    have hH6 : HRel cx0.tid F I6 ((C' ++ [Blk.rowb 0 .node (plugS l ws (g xs0))]).map some) (W1.setCell ⟨xb, xo, none⟩ v') := by
      refine ⟨fun k => ?_, ?_, ?_, ?_, ?_⟩
      · rcases Nat.lt_trichotomy k C.length with h | h | h
        · have e : ((C' ++ [Blk.rowb 0 .node (plugS l ws (g xs0))]).map some).getD k none = some (C'[k]'(by omega)) := by
            rw [List.getD_eq_getElem?_getD, List.getElem?_map, List.getElem?_append_left (by omega), List.getElem?_eq_getElem (by omega)]; rfl
          rw [e]
          have h5 := hP.hr.hp (k + 1)
          have e5 : ((Blk.rowb 0 .node (g xs0) :: C').map some).getD (k + 1) none = some (C'[k]'(by omega)) := by
            rw [List.getD_eq_getElem?_getD, List.getElem?_map, List.getElem?_cons_succ, List.getElem?_eq_getElem (by omega)]; rfl
          rw [e5] at h5
          obtain ⟨cells, hc, hpu⟩ := hC' (C'[k]'(by omega)) (List.getElem_mem _)
          rw [hc] at h5 ⊢
          obtain ⟨l1, h1, gg, csx, ty, rfl, hgg, hal⟩ := h5
          refine ⟨_, (i6lt k h).trans h1, gg, csx, ty, rfl, (hset gg (h5lt _ _ gg h1 rfl)).trans hgg, .of hal.length fun j u x hu hx => ?_⟩
          obtain ⟨y, hy, hr⟩ := hal.get' hu
          rw [hx] at hy; injection hy with hy; subst hy
          exact up hr (hpu x (List.mem_of_getElem? hx))
        · subst h
          have e : ((C' ++ [Blk.rowb 0 .node (plugS l ws (g xs0))]).map some).getD C.length none = some (.rowb 0 .node (plugS l ws (g xs0))) := by
            rw [List.getD_eq_getElem?_getD, List.getElem?_map, List.getElem?_append_right (by omega), hlen, Nat.sub_self]; rfl
          rw [e]
          exact ⟨_, i6n, vout, us6, rfl, hmx6, hown6, hall6⟩
        · have e : ((C' ++ [Blk.rowb 0 .node (plugS l ws (g xs0))]).map some).getD k none = none := by
            rw [List.getD_eq_getElem?_getD, List.getElem?_eq_none (by simp; omega)]; rfl
          rw [e]
          exact i6ge k h
      · intro i j l1 l2 b h1 h2 h3 h4
        rcases i6 i l1 h1 with ⟨hi, h5⟩ | ⟨rfl, rfl⟩ <;> rcases i6 j l2 h2 with ⟨hj, h6⟩ | ⟨rfl, rfl⟩
        · have := hP.hr.inj (i + 1) (j + 1) l1 l2 b h5 h6 h3 h4
          omega
        · exfalso
          rcases hvo b h4 with ⟨_, h7⟩ | ⟨_, _, h7, _⟩
          · have := hP.hr.inj (i + 1) 0 l1 _ b h5 hP.zero h3 h7
            cases this
          · exact hP.hr.apart (i + 1) l1 b h5 h3 h7
        · exfalso
          rcases hvo b h3 with ⟨_, h7⟩ | ⟨_, _, h7, _⟩
          · have := hP.hr.inj (j + 1) 0 l2 _ b h6 hP.zero h4 h7
            cases this
          · exact hP.hr.apart (j + 1) l2 b h6 h4 h7
        · rfl
      · intro i l1 b h1 h2 h3
        rcases i6 i l1 h1 with ⟨hi, h5⟩ | ⟨rfl, rfl⟩
        · exact hP.hr.apart (i + 1) l1 b h5 h2 (.inl h3)
        · rcases hvo b h2 with ⟨_, h7⟩ | ⟨_, _, _, h7, _⟩
          · exact hP.hr.apart 0 _ b hP.zero h7 (.inl h3)
          · have := hFlt b h3; omega
      · intro i l1 b h1 h2
        rcases i6 i l1 h1 with ⟨hi, h5⟩ | ⟨rfl, rfl⟩
        · rw [setCell_size]; exact hP.hr.lt (i + 1) l1 b h5 h2
        · exact hvolt b h2
      · intro b hb
        rw [setCell_size]
        have := hFlt b hb
        have := hP.size
        omega
    rw [← hvout]
    refine ⟨_, I6, rfl, ⟨_, rfl, .cons (.leaf (own_new i6n hone6)) (.cons (.leaf (.bool _)) .nil)⟩, hH6, fun p hp => (nomatch hp), fun i hi => ?_, fun i l1 b h1 h2 => ?_, hP.os.trans hg3.os, hP.tape.trans hg3.tape, hP.output.trans hg3.output, by rw [setCell_size]; have := hP.size; omega, fun b hb hn => ?_⟩
    · obtain ⟨bb, h1, h2⟩ := h5box i hi
      rw [h1, i6lt i hi, h2]
      exact ⟨fun b h => h, fun b v h => (nomatch h), fun n t v h => (nomatch h)⟩
    · rcases i6 i l1 h1 with ⟨hi, h5⟩ | ⟨rfl, rfl⟩
      · obtain ⟨bb, h3, h4⟩ := h5box i hi
        rw [h4] at h5; injection h5 with h5; subst h5
        exact .inl ⟨i, _, h3, h2⟩
      · rcases hvo b h2 with ⟨_, h7⟩ | ⟨_, _, _, h7, _⟩
        · rcases hP.place 0 _ b hP.zero h7 with ⟨j, l2, h3, h4⟩ | h3
          · cases j with
            | zero => injection h3 with h3; subst h3; have := hvb b h4; exact .inr (by omega)
            | succ j => exact .inl ⟨j, l2, h3, h4⟩
          · exact .inr (by omega)
        · exact .inr h7
    · rw [hset b (by omega)]
      rw [hP.frame b (by omega) fun i l1 hi hh => ?_]
      · exact hg3.block b hb (fun e => nomatch e)
      · cases i with
        | zero => injection hi with hi; subst hi; have := hvb b hh; omega
        | succ i => exact hn i l1 hi hh
end Go.Proofs.Ytmkjjopflncedaa.AX
end
section
namespace Go.Proofs.Ytmkjjopflncedaa.AXP
open Go Go.Proofs.Ytmkjjopflncedaa.AX
def lastW (way : List Int) : Int := way.getLastD 0
/-- Is there a list at the end of a way? -/
def foundW (l : List Nd) (way : List Int) : Bool := (stepsW l way.dropLast).isSome
def subW (l : List Nd) (way : List Int) : List Nd := (stepsW l way.dropLast).getD []
def okIns (xs : List Nd) (i : Int) : Bool := 0 ≤ i && i ≤ (xs.length : Int)
def putAt (xs : List Nd) (i : Int) (n : Nd) : List Nd := xs.take i.toNat ++ [n] ++ xs.drop (i.toNat + 1)
def cutAt (xs : List Nd) (i : Int) : List Nd := xs.take i.toNat ++ xs.drop (i.toNat + 1)
def onW (l : List Nd) (way : List Int) (g : List Nd → Int → List Nd) : List Nd := if foundW l way = true then plugS l way.dropLast (g (subW l way) (lastW way)) else []
def insW (l : List Nd) (way : List Int) (n : Nd) : List Nd := onW l way fun xs i => insAt xs i n
def putW (l : List Nd) (way : List Int) (n : Nd) : List Nd := onW l way fun xs i => putAt xs i n
def cutW (l : List Nd) (way : List Int) : List Nd := onW l way cutAt
def okInsW (l : List Nd) (way : List Int) (b : Bool) : Bool := if foundW l way = true then okIns (subW l way) (lastW way) else b
end Go.Proofs.Ytmkjjopflncedaa.AXP
namespace Go.Proofs.Ytmkjjopflncedaa.AX
open Go Go.RowKit AXP
set_option maxRecDepth 100000
theorem one_holds : Holds 87 conOne := conP_holds fun n => by
  refine fun_meets0 (AllH.tok (.cons copy_holds (by kernel_rfl) .nil)) [] (by kernel_rfl) (by kernel_rfl) fun hpre => Eq.mpr (vcOneF n _) ?_
  rw [nd_eta]
  exact ⟨hpre _ rfl, qfin rfl rfl rfl rfl⟩
theorem insF_meets (xs : List Nd) (i : Int) (b : Bool) (n : Nd) (hf : fitNds [n]) (hl : (xs.length + 1) * 96 ≤ maxSl) : Meets cx0 85 [.own 0 0, .int .i64 i, .ptr 1 0, .ptr 2 0] [.rowb 0 .node xs, .box [.bool b], .box (nodeL n)] { res := .own 0 0, hp := [.rowb 0 .node (insAt xs i n), .box [.bool (okIns xs i)], .box (nodeL n)] } := by
  refine fun_meets0S (AllH.tok (.cons one_holds (by kernel_rfl) (.cons ins_holds (by kernel_rfl) .nil))) [.res 0, .slot 2, .slot 3] [] (by kernel_rfl) (by kernel_rfl) fun hpre => Eq.mpr (vcInsF xs i b n _) ?_
  rw [nd_eta]
  refine ⟨fun h1 => ⟨fun _ => ⟨fun h2 => qfin rfl rfl ?_ rfl, fun h2 => ⟨hf, ⟨⟨?_, ?_, hl⟩, qfin rfl rfl ?_ rfl⟩⟩⟩⟩, fun h1 => qfin rfl rfl ?_ rfl⟩
  · have h1 : 0 ≤ i := by simpa using h1
    have h2 : ¬ i ≤ (xs.length : Int) := by simpa using h2
    simp only [insAt, okIns, decide_eq_true h1, decide_eq_false h2, Bool.and_false, Bool.true_and, nodeL]
    rfl
  · simpa using h1
  · simpa using h2
  · have h1 : 0 ≤ i := by simpa using h1
    have h2 : i ≤ (xs.length : Int) := by simpa using h2
    simp only [insAt, okIns, decide_eq_true h1, decide_eq_true h2, Bool.and_true, nodeL, if_true]
  · have h1 : ¬ 0 ≤ i := by simpa using h1
    simp only [insAt, okIns, decide_eq_false h1, Bool.false_and, nodeL]
    rfl
theorem putF_meets (xs : List Nd) (i : Int) (n : Nd) (hf : fitNds [n]) (h0 : 0 ≤ i) (h1 : i < (xs.length : Int)) (hm : xs.length ≤ maxSl) : Meets cx0 91 [.own 0 0, .int .i64 i, .ptr 1 0] [.rowb 0 .node xs, .box (nodeL n)] { res := .own 0 0, hp := [.rowb 0 .node (putAt xs i n), .box (nodeL n)] } := by
  refine fun_meets0S (AllH.tok (.cons one_holds (by kernel_rfl) (.cons repl_holds (by kernel_rfl) .nil))) [.res 0, .slot 2] [] (by kernel_rfl) (by kernel_rfl) fun hpre => Eq.mpr (vcPutF xs i n _) ?_
  rw [nd_eta]
  exact ⟨hf, ⟨⟨h0, h1, by unfold maxSl at hm; rw [wrap_id'] <;> omega⟩, qfin rfl rfl rfl rfl⟩⟩
theorem cutF_meets (xs : List Nd) (i : Int) (h0 : 0 ≤ i) (h1 : i < (xs.length : Int)) (hm : xs.length ≤ maxSl) : Meets cx0 89 [.own 0 0, .int .i64 i] [.rowb 0 .node xs] { res := .own 0 0, hp := [.rowb 0 .node (cutAt xs i)] } := by
  refine fun_meets0S (AllH.tok (.cons delNd_holds (by kernel_rfl) .nil)) [.res 0] [] (by kernel_rfl) (by kernel_rfl) fun hpre => Eq.mpr (vcCutF xs i _) ?_
  have hw : IntKind.i64.wrap (i + 1) = i + 1 := by unfold maxSl at hm; rw [wrap_id'] <;> omega
  rw [hw]
  refine ⟨⟨h0, by omega, by omega⟩, qfin rfl rfl ?_ rfl⟩
  rw [show (i + 1).toNat = i.toNat + 1 by omega]; rfl
theorem pureBox_bool (b : Bool) : PureBox (.box [.bool b]) := ⟨_, rfl, fun a ha => by
  cases ha with
  | head => trivial
  | tail _ h => cases h⟩
theorem pureBox_node (n : Nd) : PureBox (.box (nodeL n)) := ⟨_, rfl, pure_leaves .node n⟩
theorem way_split {way : List Int} (h : way ≠ []) : way = way.dropLast ++ [lastW way] := by
  unfold lastW
  rw [List.getLastD_eq_getLast?, List.getLast?_eq_some_getLast h]
  exact (List.dropLast_concat_getLast h).symm
def conTurnIns : Con := fun args hp => match args, hp with
  | [x, y, .fn f [.ptr 0 0, .ptr 1 0]], [.box [c], .box cells] => match Nat.beq f 85 with
    | true => (rowOf .node x).bind fun l => (rowOf .int y).bind fun way => (boolOf c).bind fun b => (toNd cells).bind fun n => some { pre := some (way ≠ [] ∧ fitNds l ∧ fitNds [n] ∧ ((subW l way).length + 1) * 96 ≤ maxSl), res := .tup [.own 2 0, .bool (foundW l way)], hp := [.box [.bool (okInsW l way b)], .box (nodeL n)], extra := [.rowb 0 .node (insW l way n)] }
    | false => none
  | _, _ => none
def conTurnPut : Con := fun args hp => match args, hp with
  | [x, y, .fn f [.ptr 0 0]], [.box cells] => match Nat.beq f 91 with
    | true => (rowOf .node x).bind fun l => (rowOf .int y).bind fun way => (toNd cells).bind fun n => some { pre := some (way ≠ [] ∧ fitNds l ∧ fitNds [n] ∧ (foundW l way = true → inB (subW l way) (lastW way) = true) ∧ (subW l way).length ≤ maxSl), res := .tup [.own 1 0, .bool (foundW l way)], hp := [.box (nodeL n)], extra := [.rowb 0 .node (putW l way n)] }
    | false => none
  | _, _ => none
def conTurnCut : Con := fun args hp => match args, hp with
  | [x, y, .fn f []], [] => match Nat.beq f 89 with
    | true => (rowOf .node x).bind fun l => (rowOf .int y).bind fun way => some { pre := some (way ≠ [] ∧ fitNds l ∧ (foundW l way = true → inB (subW l way) (lastW way) = true) ∧ (subW l way).length ≤ maxSl), res := .tup [.own 0 0, .bool (foundW l way)], extra := [.rowb 0 .node (cutW l way)] }
    | false => none
  | _, _ => none
theorem rowOf_le {t : Ty} {x : AV} {d : List (den t)} (h : rowOf t x = some d) : AVle x (.row t d) := Pm.le (p := .row t) h
/-- A contract whose pieces are known in another form. -/
theorem Meets.box_le {f : Nat} {args : List AV} {hp hp' : List Blk} {ans : Ans} (hl : hp.length = hp'.length) (h : ∀ (i : Nat) (b b' : Blk), hp[i]? = some b → hp'[i]? = some b' → b = b' ∨ ∃ c c', b = .box c ∧ b' = .box c' ∧ ∀ (w : World) (O : Nat → Prop) (I : Im) (us : List Value), All2 (LeafR w O I) us c → All2 (LeafR w O I) us c') (hm : Meets cx0 f args hp' ans) : Meets cx0 f args hp ans := by
  intro F I w vals hH hv hpre
  have hH' : HRel cx0.tid F I (hp'.map some) w := by
    refine ⟨fun id => ?_, hH.inj, hH.apart, hH.lt, hH.out⟩
    have h0 := hH.hp id
    rcases Nat.lt_or_ge id hp.length with hid | hid
    · have e : (hp.map some).getD id none = some hp[id] := by simp [List.getD_eq_getElem?_getD, hid]
      have e' : (hp'.map some).getD id none = some (hp'[id]'(by omega)) := by
        have : id < hp'.length := by omega
        simp [List.getD_eq_getElem?_getD, this]
      rw [e] at h0
      rw [e']
      obtain ⟨l, h1, h2⟩ := h0
      rcases h id hp[id] (hp'[id]'(by omega)) (List.getElem?_eq_getElem hid) (List.getElem?_eq_getElem (by omega)) with hb | ⟨c, c', hb, hb', hc⟩
      · rw [← hb]; exact ⟨l, h1, h2⟩
      · rw [hb] at h2
        rw [hb']
        obtain ⟨g, cs, ty, h3, h4, h5⟩ := h2
        exact ⟨l, h1, g, cs, ty, h3, h4, hc _ _ _ _ h5⟩
    · have e : (hp.map some).getD id none = none := by rw [List.getD_eq_getElem?_getD, List.getElem?_eq_none (by simpa using hid)]; rfl
      have e' : (hp'.map some).getD id none = none := by rw [List.getD_eq_getElem?_getD, List.getElem?_eq_none (by simp; omega)]; rfl
      rw [e] at h0
      rw [e']; exact h0
  have := hm F I w vals hH' hv hpre
  rw [← hl] at this
  exact this
theorem turnIns_holds : Holds 84 conTurnIns := by
  intro args hp ans hc
  unfold conTurnIns at hc
  split at hc
  case h_2 => cases hc
  rename_i x y f c cells
  split at hc
  case h_2 => cases hc
  rename_i hf
  simp only [Option.bind_eq_some_iff] at hc
  obtain ⟨l, hx, way, hy, b, hb, n, hn, hc⟩ := hc
  injection hc with hc
  subst hc
  have hf := Nat.eq_of_beq_eq_true hf
  subst hf
  refine Meets.box_le (hp' := [.box [.bool b], .box (nodeL n)]) rfl (fun i p p' h1 h2 => ?_) ?_
  · match i with
    | 0 =>
      injection h1 with h1; injection h2 with h2
      refine .inr ⟨_, _, h1.symm, h2.symm, fun w O I us h => ?_⟩
      cases h with | cons a t =>
      cases t
      unfold boolOf at hb
      split at hb
      · injection hb with hb; subst hb; exact .cons a .nil
      · injection hb with hb; subst hb; cases a; exact .cons (.bool _) .nil
      · cases hb
    | 1 =>
      injection h1 with h1; injection h2 with h2
      exact .inr ⟨_, _, h1.symm, h2.symm, fun w O I us h => toNd_R h hn⟩
    | i + 2 => simp at h1
  refine Meets.weaken (args' := [.row .node l, .row .int way, .fn 85 [.ptr 0 0, .ptr 1 0]]) (.cons (rowOf_le hx) (.cons (rowOf_le hy) (.cons (.refl _) .nil))) ?_
  intro F I w vals hH hv hpre
  obtain ⟨p1, p2, p3, p4⟩ := hpre _ rfl
  have ew := way_split p1
  generalize hws : way.dropLast = ws at ew
  generalize hla : lastW way = last at ew
  have T := fun (C' : List Blk) (g : List Nd → List Nd) hC' hlen hcl => turn_meets (f := 85) (caps := [.ptr 0 0, .ptr 1 0]) (C := [.box [.bool b], .box (nodeL n)]) (C' := C') (g := g) (l := l) (ws := ws) (last := last)
    (fun b hb => by
      cases hb with
      | head => exact pureBox_bool _
      | tail _ hb => cases hb with
        | head => exact pureBox_node _
        | tail _ hb => cases hb) hC' hlen rfl (by kernel_rfl) p2 hcl
  cases hst : stepsW l ws with
  | none =>
    have := (T [.box [.bool b], .box (nodeL n)] id (fun b hb => by
      cases hb with
      | head => exact pureBox_bool _
      | tail _ hb => cases hb with
        | head => exact pureBox_node _
        | tail _ hb => cases hb) rfl (fun xs hxs => by rw [hst] at hxs; cases hxs)).1 hst F I w vals hH (by rw [ew] at hv; exact hv) (fun p hp => nomatch hp)
    have e1 : foundW l way = false := by unfold foundW; rw [hws, hst]; rfl
    have e2 : okInsW l way b = b := by unfold okInsW; rw [e1]; rfl
    have e3 : insW l way n = [] := by unfold insW onW; rw [e1]; rfl
    rw [e1, e2, e3]
    exact this
  | some xs =>
    have e0 : subW l way = xs := by unfold subW; rw [hws, hst]; rfl
    rw [e0] at p4
    have := (T [.box [.bool (okIns xs last)], .box (nodeL n)] (fun xs => insAt xs last n) (fun b hb => by
      cases hb with
      | head => exact pureBox_bool _
      | tail _ hb => cases hb with
        | head => exact pureBox_node _
        | tail _ hb => cases hb) rfl (fun ys hys => by rw [hst] at hys; injection hys with hys; subst hys; exact insF_meets xs last b n p3 p4)).2 xs hst F I w vals hH (by rw [ew] at hv; exact hv) (fun p hp => nomatch hp)
    have e1 : foundW l way = true := by unfold foundW; rw [hws, hst]; rfl
    have e2 : okInsW l way b = okIns xs last := by unfold okInsW; rw [e1, e0, hla]; rfl
    have e3 : insW l way n = plugS l ws (insAt xs last n) := by unfold insW onW; rw [e1, e0, hla, hws]; rfl
    rw [e1, e2, e3]
    exact this
theorem turnPut_holds : Holds 84 conTurnPut := by
  intro args hp ans hc
  unfold conTurnPut at hc
  split at hc
  case h_2 => cases hc
  rename_i x y f cells
  split at hc
  case h_2 => cases hc
  rename_i hf
  simp only [Option.bind_eq_some_iff] at hc
  obtain ⟨l, hx, way, hy, n, hn, hc⟩ := hc
  injection hc with hc
  subst hc
  have hf := Nat.eq_of_beq_eq_true hf
  subst hf
  refine Meets.box_le (hp' := [.box (nodeL n)]) rfl (fun i p p' h1 h2 => ?_) ?_
  · match i with
    | 0 =>
      injection h1 with h1; injection h2 with h2
      exact .inr ⟨_, _, h1.symm, h2.symm, fun w O I us h => toNd_R h hn⟩
    | i + 1 => simp at h1
  refine Meets.weaken (args' := [.row .node l, .row .int way, .fn 91 [.ptr 0 0]]) (.cons (rowOf_le hx) (.cons (rowOf_le hy) (.cons (.refl _) .nil))) ?_
  intro F I w vals hH hv hpre
  obtain ⟨p1, p2, p3, p4, p5⟩ := hpre _ rfl
  have ew := way_split p1
  generalize hws : way.dropLast = ws at ew
  generalize hla : lastW way = last at ew
  have hpb : ∀ b ∈ [Blk.box (nodeL n)], PureBox b := fun b hb => by
    cases hb with
    | head => exact pureBox_node _
    | tail _ hb => cases hb
  have T := fun (g : List Nd → List Nd) hcl => turn_meets (f := 91) (caps := [.ptr 0 0]) (C := [.box (nodeL n)]) (C' := [.box (nodeL n)]) (g := g) (l := l) (ws := ws) (last := last) hpb hpb rfl rfl (by kernel_rfl) p2 hcl
  cases hst : stepsW l ws with
  | none =>
    have := (T id (fun xs hxs => by rw [hst] at hxs; cases hxs)).1 hst F I w vals hH (by rw [ew] at hv; exact hv) (fun p hp => nomatch hp)
    have e1 : foundW l way = false := by unfold foundW; rw [hws, hst]; rfl
    have e3 : putW l way n = [] := by unfold putW onW; rw [e1]; rfl
    rw [e1, e3]
    exact this
  | some xs =>
    have e0 : subW l way = xs := by unfold subW; rw [hws, hst]; rfl
    have e1 : foundW l way = true := by unfold foundW; rw [hws, hst]; rfl
    have p4 := p4 e1
    rw [e0, hla] at p4
    rw [e0] at p5
    simp only [inB, Bool.and_eq_true, decide_eq_true_eq] at p4
    have := (T (fun xs => putAt xs last n) (fun ys hys => by rw [hst] at hys; injection hys with hys; subst hys; exact putF_meets xs last n p3 p4.1 p4.2 p5)).2 xs hst F I w vals hH (by rw [ew] at hv; exact hv) (fun p hp => nomatch hp)
    have e3 : putW l way n = plugS l ws (putAt xs last n) := by unfold putW onW; rw [e1, e0, hla, hws]; rfl
    rw [e1, e3]
    exact this
theorem turnCut_holds : Holds 84 conTurnCut := by
  intro args hp ans hc
  unfold conTurnCut at hc
  split at hc
  case h_2 => cases hc
  rename_i x y f
  split at hc
  case h_2 => cases hc
  rename_i hf
  simp only [Option.bind_eq_some_iff] at hc
  obtain ⟨l, hx, way, hy, hc⟩ := hc
  injection hc with hc
  subst hc
  have hf := Nat.eq_of_beq_eq_true hf
  subst hf
  refine Meets.weaken (args' := [.row .node l, .row .int way, .fn 89 []]) (.cons (rowOf_le hx) (.cons (rowOf_le hy) (.cons (.refl _) .nil))) ?_
  intro F I w vals hH hv hpre
  obtain ⟨p1, p2, p4, p5⟩ := hpre _ rfl
  have ew := way_split p1
  generalize hws : way.dropLast = ws at ew
  generalize hla : lastW way = last at ew
  have hpb : ∀ b ∈ ([] : List Blk), PureBox b := fun b hb => nomatch hb
  have T := fun (g : List Nd → List Nd) hcl => turn_meets (f := 89) (caps := []) (C := []) (C' := []) (g := g) (l := l) (ws := ws) (last := last) hpb hpb rfl rfl (by kernel_rfl) p2 hcl
  cases hst : stepsW l ws with
  | none =>
    have := (T id (fun xs hxs => by rw [hst] at hxs; cases hxs)).1 hst F I w vals hH (by rw [ew] at hv; exact hv) (fun p hp => nomatch hp)
    have e1 : foundW l way = false := by unfold foundW; rw [hws, hst]; rfl
    have e3 : cutW l way = [] := by unfold cutW onW; rw [e1]; rfl
    rw [e1, e3]
    exact this
  | some xs =>
    have e0 : subW l way = xs := by unfold subW; rw [hws, hst]; rfl
    have e1 : foundW l way = true := by unfold foundW; rw [hws, hst]; rfl
    have p4 := p4 e1
    rw [e0, hla] at p4
    rw [e0] at p5
    simp only [inB, Bool.and_eq_true, decide_eq_true_eq] at p4
    have := (T (fun xs => cutAt xs last) (fun ys hys => by rw [hst] at hys; injection hys with hys; subst hys; exact cutF_meets xs last p4.1 p4.2 p5)).2 xs hst F I w vals hH (by rw [ew] at hv; exact hv) (fun p hp => nomatch hp)
    have e3 : cutW l way = plugS l ws (cutAt xs last) := by unfold cutW onW; rw [e1, e0, hla, hws]; rfl
    rw [e1, e3]
    exact this
/-- One of two contracts. -/
def conOr (c d : Con) : Con := fun args hp => match c args hp with
  | some a => some a
  | none => d args hp
theorem or_holds {f : Nat} {c d : Con} (h : Holds f c) (h' : Holds f d) : Holds f (conOr c d) := by
  intro args hp ans e
  unfold conOr at e
  split at e
  · rename_i a ha
    injection e with e; subst e; exact h args hp a ha
  · exact h' args hp ans e
def conTurn : Con := conOr conTurnIns (conOr conTurnPut conTurnCut)
theorem turn_holds : Holds 84 conTurn := or_holds turnIns_holds (or_holds turnPut_holds turnCut_holds)
end Go.Proofs.Ytmkjjopflncedaa.AX
end
section
namespace Go.Proofs.Ytmkjjopflncedaa.AXP
open Go Go.Proofs.Ytmkjjopflncedaa.AX
mutual
/-- How much nodes hold. -/
def wtNd : Nd → Nat
  | ⟨_, _, _, a, _, c⟩ => 1 + a.length + wtNds c
def wtNds : List Nd → Nat
  | [] => 0
  | x :: l => wtNd x + wtNds l
end
def wtMx : Nat := 100000000000
def wtEd (x : Ed) : Nat := 1 + x.way.length + wtNd x.old + wtNd x.new
def wtEds : List Ed → Nat
  | [] => 0
  | x :: l => wtEd x + wtEds l
/-- Does a way lead to a list? To which? -/
def goesW (l : List Nd) (ws : List Int) : Bool := (stepsW l ws).isSome
/-- As far as it goes. -/
def endW : List Nd → List Int → List Nd
  | l, [] => l
  | l, i :: ws => if inB l i = true then endW (l.getD i.toNat default).kids ws else l
/-- The node at a way. -/
def atW (l : List Nd) (way : List Int) : Option Nd := if way.length = 0 then none else (stepsW l way.dropLast).bind fun xs => if inB xs (lastW way) = true then some (xs.getD (lastW way).toNat default) else none
def atN (l : List Nd) (way : List Int) : Nd := (atW l way).getD default
def atErr (l : List Nd) (way : List Int) : Int := if way.length = 0 then 1 else if (atW l way).isSome = true then 0 else 6
/-- Nodes with one more at a way. -/
def insR (l : List Nd) (way : List Int) (n : Nd) : Option (List Nd) := if (way.length != 0 && foundW l way && okInsW l way false) = true then some (insW l way n) else none
def insErr (l : List Nd) (way : List Int) : Int := if way.length = 0 then 1 else if (foundW l way && okInsW l way false) = true then 0 else 6
end Go.Proofs.Ytmkjjopflncedaa.AXP
namespace Go.Proofs.Ytmkjjopflncedaa.AX
open Go AXP
def conIn : Con := conP [.row .node, .int] fun (l : List Nd) (i : Int) => { res := .bool (inB l i) }
def conAt : Con := conP [.row .node, .row .int] fun (l : List Nd) (way : List Int) => { pre := some (wtNds l ≤ wtMx), res := .tup [.agg (nodeL (atN l way)), .int .i64 (atErr l way)] }
noncomputable def cxAt : Cx := cxT (tabLook [(88, conIn), (36, conCopy)])
/-- No node, as it is built. -/
def nilNd : List AV := [.int .i64 0, .int .i64 0, .str ⟨#[]⟩, .nil, .str ⟨#[]⟩, .nil]
def lsAt : LS where
  keep := [(0, .as), (1, .as), (4, .as), (5, .as), (17, .as), (18, .as), (19, .as)]
  left := [(0, .as), (1, .as), (4, .as), (5, .as)]
  sum := fun vs bs K => match vs, bs with
    | [.row .node cur, .row .int way, .ptr 0 0, .int .i64 e, .row .int ws, .int .i64 m, .int .i64 i], [.box [.int .i64 c0, .int .i64 c1, .str c2, .nil, .str c4, .nil]] => Rq (m = ws.length ∧ i = 0 ∧ ws.length ≤ maxSl) (Br (goesW cur ws) (K (.exit 0) [.row .node (endW cur ws), .row .int way, .ptr 0 0, .int .i64 e] [.box [.int .i64 c0, .int .i64 c1, .str c2, .nil, .str c4, .nil]]) (K .ret [.row .node (endW cur ws), .row .int way, .ptr 0 0, .int .i64 6] [.box nilNd]))
    | _, _ => False
noncomputable def cxIns : Cx := cxT (tabLook [(84, conTurn)])
noncomputable def cxPut : Cx := cxT (tabLook [(65, conAt), (84, conTurn)])
end Go.Proofs.Ytmkjjopflncedaa.AX
end
section
namespace Go.Proofs.Ytmkjjopflncedaa.AX
open Go AXP
set_option maxRecDepth 100000
theorem vcInF (l : List Nd) (i : Int) (Q : List AV → List Blk → List Blk → Prop) : (funA cx0 (LL Try.f88 []) Try.f88 [.row .node l, .int .i64 i] [] [] Q) = (
Br (decide (i ≥ (0 : Int))) (Gv (l.length ≤ maxSl) (Q [AV.bool (decide (i < (↑l.length : Int)))] [] []))
  (Q [AV.bool false] [] [])) := by kernel_rfl
theorem vcAtB (cur : List Nd) (way ws : List Int) (e m i : Int) (c0 c1 : Int) (c2 c4 : ByteArray) (K : Ex → List AV → List Blk → Prop) : (bodyA cxAt (LL Try.f65 [lsAt]) Try.f65.ntmps (loopAt Try.f65 0).1 (loopAt Try.f65 0).2 lsAt.keep lsAt.left K [.row .node cur, .row .int way, .ptr 0 0, .int .i64 e, .row .int ws, .int .i64 m, .int .i64 i] [.box [.int .i64 c0, .int .i64 c1, .str c2, .nil, .str c4, .nil]]) = (
Br (decide (i < m))
  (Rq ((0 : Int) ≤ i ∧ i < (↑ws.length : Int))
    (Br (!inB cur (rd Ty.int ws i))
      (K Ex.ret [AV.row Ty.node cur, AV.row Ty.int way, AV.ptr (0 : Nat) (0 : Nat), AV.int IntKind.i64 (6 : Int)]
        [Blk.box
            [AV.int IntKind.i64 (0 : Int), AV.int IntKind.i64 (0 : Int), AV.str (ByteArray.mk (Array.mk [])), AV.nil,
              AV.str (ByteArray.mk (Array.mk [])), AV.nil]])
      (Rq ((0 : Int) ≤ rd Ty.int ws i ∧ rd Ty.int ws i < (↑cur.length : Int))
        (K Ex.norm
          [AV.row Ty.node (rd Ty.node cur (rd Ty.int ws i)).6, AV.row Ty.int way, AV.ptr (0 : Nat) (0 : Nat),
            AV.int IntKind.i64 e, AV.row Ty.int ws, AV.int IntKind.i64 m,
            AV.int IntKind.i64 (IntKind.i64.wrap (i + (1 : Int)))]
          [Blk.box [AV.int IntKind.i64 c0, AV.int IntKind.i64 c1, AV.str c2, AV.nil, AV.str c4, AV.nil]]))))
  (K (Ex.exit (0 : Nat)) [AV.row Ty.node cur, AV.row Ty.int way, AV.ptr (0 : Nat) (0 : Nat), AV.int IntKind.i64 e]
    [Blk.box [AV.int IntKind.i64 c0, AV.int IntKind.i64 c1, AV.str c2, AV.nil, AV.str c4, AV.nil]])) := by kernel_rfl
theorem vcAtF (l : List Nd) (way : List Int) (Q : List AV → List Blk → List Blk → Prop) : (funA cxAt (LL Try.f65 [lsAt]) Try.f65 [.row .node l, .row .int way] [] [] Q) = (
Gv (way.length ≤ maxSl)
  (Br ((↑way.length : Int) == (0 : Int))
    (Q
      [AV.agg
          [AV.int IntKind.i64 (0 : Int), AV.int IntKind.i64 (0 : Int), AV.str (ByteArray.mk (Array.mk [])), AV.nil,
            AV.str (ByteArray.mk (Array.mk [])), AV.nil],
        AV.int IntKind.i64 (1 : Int)]
      [] [])
    (Rq
      ((0 : Int) ≤ (0 : Int) ∧
        (0 : Int) ≤ IntKind.i64.wrap ((↑way.length : Int) - (1 : Int)) ∧
          IntKind.i64.wrap ((↑way.length : Int) - (1 : Int)) ≤ (↑way.length : Int))
      (Gv (way.length ≤ maxSl)
        (Gv
          ((List.drop (Int.toNat (0 : Int))
                (List.take (IntKind.i64.wrap ((↑way.length : Int) - (1 : Int))).toNat way)).length ≤
            maxSl)
          (Rq
            ((↑(List.drop (Int.toNat (0 : Int))
                        (List.take (IntKind.i64.wrap ((↑way.length : Int) - (1 : Int))).toNat way)).length :
                  Int) =
                (↑(List.drop (Int.toNat (0 : Int))
                        (List.take (IntKind.i64.wrap ((↑way.length : Int) - (1 : Int))).toNat way)).length :
                  Int) ∧
              (0 : Int) = (0 : Int) ∧
                (List.drop (Int.toNat (0 : Int))
                      (List.take (IntKind.i64.wrap ((↑way.length : Int) - (1 : Int))).toNat way)).length ≤
                  maxSl)
            (Br
              (goesW l
                (List.drop (Int.toNat (0 : Int))
                  (List.take (IntKind.i64.wrap ((↑way.length : Int) - (1 : Int))).toNat way)))
              (Rq
                ((0 : Int) ≤ IntKind.i64.wrap ((↑way.length : Int) - (1 : Int)) ∧
                  IntKind.i64.wrap ((↑way.length : Int) - (1 : Int)) < (↑way.length : Int))
                (Gv (way.length ≤ maxSl)
                  (Br
                    (!inB
                        (endW l
                          (List.drop (Int.toNat (0 : Int))
                            (List.take (IntKind.i64.wrap ((↑way.length : Int) - (1 : Int))).toNat way)))
                        (rd Ty.int way (IntKind.i64.wrap ((↑way.length : Int) - (1 : Int)))))
                    (Q
                      [AV.agg
                          [AV.int IntKind.i64 (0 : Int), AV.int IntKind.i64 (0 : Int),
                            AV.str (ByteArray.mk (Array.mk [])), AV.nil, AV.str (ByteArray.mk (Array.mk [])), AV.nil],
                        AV.int IntKind.i64 (6 : Int)]
                      [] [])
                    (Rq
                      ((0 : Int) ≤ rd Ty.int way (IntKind.i64.wrap ((↑way.length : Int) - (1 : Int))) ∧
                        rd Ty.int way (IntKind.i64.wrap ((↑way.length : Int) - (1 : Int))) ≤
                            IntKind.i64.wrap
                              (rd Ty.int way (IntKind.i64.wrap ((↑way.length : Int) - (1 : Int))) + (1 : Int)) ∧
                          IntKind.i64.wrap
                              (rd Ty.int way (IntKind.i64.wrap ((↑way.length : Int) - (1 : Int))) + (1 : Int)) ≤
                            (↑(endW l
                                    (List.drop (Int.toNat (0 : Int))
                                      (List.take (IntKind.i64.wrap ((↑way.length : Int) - (1 : Int))).toNat
                                        way))).length :
                              Int))
                      (Rq
                        (fitNds
                          (List.drop (Int.toNat (rd Ty.int way (IntKind.i64.wrap ((↑way.length : Int) - (1 : Int)))))
                            (List.take
                              (IntKind.i64.wrap
                                  (rd Ty.int way (IntKind.i64.wrap ((↑way.length : Int) - (1 : Int))) +
                                    (1 : Int))).toNat
                              (endW l
                                (List.drop (Int.toNat (0 : Int))
                                  (List.take (IntKind.i64.wrap ((↑way.length : Int) - (1 : Int))).toNat way))))))
                        (Rq
                          ((0 : Int) ≤ (0 : Int) ∧
                            (0 : Int) <
                              (↑(List.drop
                                      (Int.toNat (rd Ty.int way (IntKind.i64.wrap ((↑way.length : Int) - (1 : Int)))))
                                      (List.take
                                        (IntKind.i64.wrap
                                            (rd Ty.int way (IntKind.i64.wrap ((↑way.length : Int) - (1 : Int))) +
                                              (1 : Int))).toNat
                                        (endW l
                                          (List.drop (Int.toNat (0 : Int))
                                            (List.take (IntKind.i64.wrap ((↑way.length : Int) - (1 : Int))).toNat
                                              way))))).length :
                                Int))
                          (Q
                            [AV.agg
                                [AV.int IntKind.i64
                                    (rd Ty.node
                                        (List.drop
                                          (Int.toNat
                                            (rd Ty.int way (IntKind.i64.wrap ((↑way.length : Int) - (1 : Int)))))
                                          (List.take
                                            (IntKind.i64.wrap
                                                (rd Ty.int way (IntKind.i64.wrap ((↑way.length : Int) - (1 : Int))) +
                                                  (1 : Int))).toNat
                                            (endW l
                                              (List.drop (Int.toNat (0 : Int))
                                                (List.take (IntKind.i64.wrap ((↑way.length : Int) - (1 : Int))).toNat
                                                  way)))))
                                        (0 : Int)).1,
                                  AV.int IntKind.i64
                                    (rd Ty.node
                                        (List.drop
                                          (Int.toNat
                                            (rd Ty.int way (IntKind.i64.wrap ((↑way.length : Int) - (1 : Int)))))
                                          (List.take
                                            (IntKind.i64.wrap
                                                (rd Ty.int way (IntKind.i64.wrap ((↑way.length : Int) - (1 : Int))) +
                                                  (1 : Int))).toNat
                                            (endW l
                                              (List.drop (Int.toNat (0 : Int))
                                                (List.take (IntKind.i64.wrap ((↑way.length : Int) - (1 : Int))).toNat
                                                  way)))))
                                        (0 : Int)).2,
                                  AV.str
                                    (rd Ty.node
                                        (List.drop
                                          (Int.toNat
                                            (rd Ty.int way (IntKind.i64.wrap ((↑way.length : Int) - (1 : Int)))))
                                          (List.take
                                            (IntKind.i64.wrap
                                                (rd Ty.int way (IntKind.i64.wrap ((↑way.length : Int) - (1 : Int))) +
                                                  (1 : Int))).toNat
                                            (endW l
                                              (List.drop (Int.toNat (0 : Int))
                                                (List.take (IntKind.i64.wrap ((↑way.length : Int) - (1 : Int))).toNat
                                                  way)))))
                                        (0 : Int)).3,
                                  AV.row Ty.attr
                                    (rd Ty.node
                                        (List.drop
                                          (Int.toNat
                                            (rd Ty.int way (IntKind.i64.wrap ((↑way.length : Int) - (1 : Int)))))
                                          (List.take
                                            (IntKind.i64.wrap
                                                (rd Ty.int way (IntKind.i64.wrap ((↑way.length : Int) - (1 : Int))) +
                                                  (1 : Int))).toNat
                                            (endW l
                                              (List.drop (Int.toNat (0 : Int))
                                                (List.take (IntKind.i64.wrap ((↑way.length : Int) - (1 : Int))).toNat
                                                  way)))))
                                        (0 : Int)).4,
                                  AV.str
                                    (rd Ty.node
                                        (List.drop
                                          (Int.toNat
                                            (rd Ty.int way (IntKind.i64.wrap ((↑way.length : Int) - (1 : Int)))))
                                          (List.take
                                            (IntKind.i64.wrap
                                                (rd Ty.int way (IntKind.i64.wrap ((↑way.length : Int) - (1 : Int))) +
                                                  (1 : Int))).toNat
                                            (endW l
                                              (List.drop (Int.toNat (0 : Int))
                                                (List.take (IntKind.i64.wrap ((↑way.length : Int) - (1 : Int))).toNat
                                                  way)))))
                                        (0 : Int)).5,
                                  AV.row Ty.node
                                    (rd Ty.node
                                        (List.drop
                                          (Int.toNat
                                            (rd Ty.int way (IntKind.i64.wrap ((↑way.length : Int) - (1 : Int)))))
                                          (List.take
                                            (IntKind.i64.wrap
                                                (rd Ty.int way (IntKind.i64.wrap ((↑way.length : Int) - (1 : Int))) +
                                                  (1 : Int))).toNat
                                            (endW l
                                              (List.drop (Int.toNat (0 : Int))
                                                (List.take (IntKind.i64.wrap ((↑way.length : Int) - (1 : Int))).toNat
                                                  way)))))
                                        (0 : Int)).6],
                              AV.int IntKind.i64 (0 : Int)]
                            [] [])))))))
              (Q
                [AV.agg
                    [AV.int IntKind.i64 (0 : Int), AV.int IntKind.i64 (0 : Int), AV.str (ByteArray.mk (Array.mk [])),
                      AV.nil, AV.str (ByteArray.mk (Array.mk [])), AV.nil],
                  AV.int IntKind.i64 (6 : Int)]
                [] [])))))))) := by kernel_rfl
theorem vcInsertF (l : List Nd) (way : List Int) (n : Nd) (Q : List AV → List Blk → List Blk → Prop) : (funA cxIns (LL Try.f63 []) Try.f63 [.row .node l, .row .int way, .agg (leaves .node n)] [] [.own .node] Q) = (
Gv (way.length ≤ maxSl)
  (Br ((↑way.length : Int) == (0 : Int))
    (Q [AV.own (0 : Nat) (0 : Nat), AV.int IntKind.i64 (1 : Int)] [] [Blk.rowb (0 : Nat) Ty.node []])
    (Rq
      (way ≠ [] ∧
        fitNds l ∧ fitNds [Nd.mk n.1 n.2 n.3 n.4 n.5 n.6] ∧ ((subW l way).length + (1 : Nat)) * (96 : Nat) ≤ maxSl)
      (Br (!foundW l way)
        (Q [AV.own (0 : Nat) (0 : Nat), AV.int IntKind.i64 (6 : Int)] [] [Blk.rowb (0 : Nat) Ty.node []])
        (Br (!okInsW l way false)
          (Q [AV.own (0 : Nat) (0 : Nat), AV.int IntKind.i64 (6 : Int)] [] [Blk.rowb (0 : Nat) Ty.node []])
          (Q [AV.own (0 : Nat) (0 : Nat), AV.int IntKind.i64 (0 : Int)] []
            [Blk.rowb (0 : Nat) Ty.node (insW l way (Nd.mk n.1 n.2 n.3 n.4 n.5 n.6))])))))) := by kernel_rfl
theorem vcPutFn (l : List Nd) (way : List Int) (n : Nd) (Q : List AV → List Blk → List Blk → Prop) : (funA cxPut (LL Try.f68 []) Try.f68 [.row .node l, .row .int way, .agg (leaves .node n)] [] [.own .node] Q) = (
Rq (wtNds l ≤ wtMx)
  (Br (atErr l way != (0 : Int))
    (Q [AV.own (0 : Nat) (0 : Nat), AV.int IntKind.i64 (atErr l way)] [] [Blk.rowb (0 : Nat) Ty.node []])
    (Rq
      (way ≠ [] ∧
        fitNds l ∧
          fitNds [Nd.mk n.1 n.2 n.3 n.4 n.5 n.6] ∧
            (foundW l way = true → inB (subW l way) (lastW way) = true) ∧
              (subW l way).length ≤ maxSl)
      (Q [AV.own (0 : Nat) (0 : Nat), AV.int IntKind.i64 (0 : Int)] []
        [Blk.rowb (0 : Nat) Ty.node (putW l way (Nd.mk n.1 n.2 n.3 n.4 n.5 n.6))])))) := by kernel_rfl
theorem vcCutFn (l : List Nd) (way : List Int) (Q : List AV → List Blk → List Blk → Prop) : (funA cxPut (LL Try.f67 []) Try.f67 [.row .node l, .row .int way] [] [.own .node] Q) = (
Rq (wtNds l ≤ wtMx)
  (Br (atErr l way != (0 : Int))
    (Q [AV.own (0 : Nat) (0 : Nat), AV.int IntKind.i64 (atErr l way)] [] [Blk.rowb (0 : Nat) Ty.node []])
    (Rq
      (way ≠ [] ∧
        fitNds l ∧
          (foundW l way = true → inB (subW l way) (lastW way) = true) ∧
            (subW l way).length ≤ maxSl)
      (Q [AV.own (0 : Nat) (0 : Nat), AV.int IntKind.i64 (0 : Int)] [] [Blk.rowb (0 : Nat) Ty.node (cutW l way)])))) := by kernel_rfl
end Go.Proofs.Ytmkjjopflncedaa.AX
end
section
namespace Go.Proofs.Ytmkjjopflncedaa.AXP
open Go Go.Proofs.Ytmkjjopflncedaa.AX
def putR (l : List Nd) (way : List Int) (n : Nd) : Option (List Nd) := if (atW l way).isSome = true then some (putW l way n) else none
def cutR (l : List Nd) (way : List Int) : Option (List Nd) := if (atW l way).isSome = true then some (cutW l way) else none
theorem stepsW_app : ∀ {a b : List Int} {l xs : List Nd}, stepsW l a = some xs → stepsW l (a ++ b) = stepsW xs b
  | [], b, l, xs, h => by injection h with h; subst h; rfl
  | i :: a, b, l, xs, h => by
    rw [List.cons_append]
    simp only [stepsW] at h ⊢
    split at h
    · rename_i hi; rw [if_pos hi]; exact stepsW_app h
    · cases h
theorem endW_of : ∀ {a : List Int} {l xs : List Nd}, stepsW l a = some xs → endW l a = xs
  | [], l, xs, h => by injection h
  | i :: a, l, xs, h => by
    simp only [stepsW, endW] at h ⊢
    split at h
    · rename_i hi; rw [if_pos hi]; exact endW_of h
    · cases h
theorem endW_stop : ∀ {a b : List Int} {i : Int} {l xs : List Nd}, stepsW l a = some xs → inB xs i = false → endW l (a ++ i :: b) = xs ∧ stepsW l (a ++ i :: b) = none
  | [], b, i, l, xs, h, hi => by injection h with h; subst h; simp [endW, stepsW, hi]
  | j :: a, b, i, l, xs, h, hi => by
    rw [List.cons_append]
    simp only [stepsW, endW] at h ⊢
    split at h
    · rename_i hj; rw [if_pos hj, if_pos hj]; exact endW_stop h hi
    · cases h
theorem goesW_some {l : List Nd} {ws : List Int} (h : goesW l ws = true) : stepsW l ws = some (endW l ws) := by
  unfold goesW at h
  obtain ⟨xs, e⟩ := Option.isSome_iff_exists.1 h
  rw [e, endW_of e]
theorem goesW_of {l xs : List Nd} {ws : List Int} (h : stepsW l ws = some xs) : goesW l ws = true := by unfold goesW; rw [h]; rfl
theorem goesW_none {l : List Nd} {ws : List Int} (h : goesW l ws = false) : stepsW l ws = none := by
  unfold goesW at h
  cases e : stepsW l ws with
  | none => rfl
  | some xs => rw [e] at h; cases h
/-! #### The measure -/
theorem wtNd_eq (n : Nd) : wtNd n = 1 + n.attrs.length + wtNds n.kids := by cases n; rw [wtNd]
theorem wtNds_app : ∀ (a b : List Nd), wtNds (a ++ b) = wtNds a + wtNds b
  | [], b => by simp [wtNds]
  | x :: a, b => by rw [List.cons_append, wtNds, wtNds, wtNds_app a b]; omega
theorem wtNd_pos (n : Nd) : 1 ≤ wtNd n := by rw [wtNd_eq]; omega
theorem wt_len : ∀ (l : List Nd), l.length ≤ wtNds l
  | [] => Nat.zero_le _
  | x :: l => by have := wt_len l; have := wtNd_pos x; rw [wtNds, List.length_cons]; omega
theorem wt_mem : ∀ {l : List Nd} {x : Nd}, x ∈ l → wtNd x ≤ wtNds l
  | y :: l, x, h => by
    rw [wtNds]
    cases h with
    | head => omega
    | tail _ h => have := wt_mem h; omega
theorem wt_take_drop (l : List Nd) (i : Nat) : wtNds (l.take i) + wtNds (l.drop i) = wtNds l := by rw [← wtNds_app, List.take_append_drop]
theorem wt_one (n : Nd) : wtNds [n] = wtNd n := by simp [wtNds]
mutual
theorem fit_of_wt_nd : ∀ (n : Nd), wtNd n ≤ wtMx → fitNd n
  | ⟨k, s, m, a, t, c⟩, h => by
    rw [wtNd] at h
    rw [fitNd]
    refine ⟨?_, fit_of_wt c (by omega)⟩
    unfold wtMx at h; unfold maxSl; omega
theorem fit_of_wt : ∀ (l : List Nd), wtNds l ≤ wtMx → fitNds l
  | [], _ => by rw [fitNds]; trivial
  | x :: l, h => by
    have h1 := wt_len (x :: l)
    rw [wtNds] at h
    rw [fitNds]
    refine ⟨?_, fit_of_wt_nd x (by omega), fit_of_wt l (by omega)⟩
    rw [wtNds] at h1
    unfold wtMx at h; unfold maxSl; omega
end
theorem wt_set : ∀ {l : List Nd} {i : Nat} (h : i < l.length) (x : Nd), wtNds (l.set i x) + wtNd l[i] = wtNds l + wtNd x
  | y :: l, 0, h, x => by simp only [List.set_cons_zero, wtNds, List.getElem_cons_zero]; omega
  | y :: l, i + 1, h, x => by
    have := wt_set (l := l) (i := i) (by simpa using h) x
    simp only [List.set_cons_succ, wtNds, List.getElem_cons_succ]; omega
theorem getD_of {l : List Nd} {i : Int} (h : inB l i = true) : ∃ (hi : i.toNat < l.length), l.getD i.toNat default = l[i.toNat] := by
  simp only [inB, Bool.and_eq_true, decide_eq_true_eq] at h
  have : i.toNat < l.length := by omega
  exact ⟨this, by rw [List.getD_eq_getElem?_getD, List.getElem?_eq_getElem this]; rfl⟩
theorem wt_getD {l : List Nd} {i : Int} (h : inB l i = true) : wtNd (l.getD i.toNat default) ≤ wtNds l := by
  obtain ⟨hi, e⟩ := getD_of h
  rw [e]; exact wt_mem (List.getElem_mem hi)
theorem wt_steps : ∀ {ws : List Int} {l xs : List Nd}, stepsW l ws = some xs → wtNds xs ≤ wtNds l
  | [], l, xs, h => by injection h with h; subst h; exact Nat.le_refl _
  | i :: ws, l, xs, h => by
    simp only [stepsW] at h
    split at h
    · rename_i hi
      have h1 := wt_steps h
      have h2 := wt_getD hi
      rw [wtNd_eq] at h2
      omega
    · cases h
theorem wt_plug : ∀ {ws : List Int} {l xs : List Nd} (k : List Nd), stepsW l ws = some xs → wtNds (plugS l ws k) + wtNds xs = wtNds l + wtNds k
  | [], l, xs, k, h => by injection h with h; subst h; rw [plugS]; omega
  | i :: ws, l, xs, k, h => by
    simp only [stepsW] at h
    split at h
    · rename_i hi
      obtain ⟨h1, e⟩ := getD_of hi
      have h2 := wt_plug k h
      rw [plugS]
      have h3 := wt_set h1 { l.getD i.toNat default with kids := plugS (l.getD i.toNat default).kids ws k }
      rw [← e, wtNd_eq, wtNd_eq] at h3
      dsimp only at h3 ⊢
      omega
    · cases h
theorem wt_insAt (xs : List Nd) (i : Int) (n : Nd) : wtNds (insAt xs i n) ≤ wtNds xs + wtNd n := by
  unfold insAt
  split
  · rw [wtNds_app, wtNds_app, wt_one]; have := wt_take_drop xs i.toNat; omega
  · omega
theorem wt_cutAt (xs : List Nd) (i : Int) : wtNds (cutAt xs i) ≤ wtNds xs := by
  unfold cutAt
  rw [wtNds_app]
  have h1 := wt_take_drop xs i.toNat
  have h2 := wt_take_drop (xs.drop i.toNat) 1
  rw [List.drop_drop] at h2
  omega
theorem wt_putAt (xs : List Nd) (i : Int) (n : Nd) : wtNds (putAt xs i n) ≤ wtNds xs + wtNd n := by
  have h := wt_cutAt xs i
  unfold cutAt at h
  unfold putAt
  rw [wtNds_app] at h
  rw [wtNds_app, wtNds_app, wt_one]; omega
theorem wt_onW {l : List Nd} {way : List Int} {g : List Nd → Int → List Nd} {m : Nat} (h : ∀ xs i, wtNds (g xs i) ≤ wtNds xs + m) : wtNds (onW l way g) ≤ wtNds l + m := by
  unfold onW foundW subW
  cases hs : stepsW l way.dropLast with
  | none => simp [wtNds]
  | some xs =>
    simp only [Option.isSome_some, if_true, Option.getD_some]
    have h1 := wt_plug (g xs (lastW way)) hs
    have h2 := h xs (lastW way)
    omega
theorem wt_insW (l : List Nd) (way : List Int) (n : Nd) : wtNds (insW l way n) ≤ wtNds l + wtNd n := wt_onW fun xs i => wt_insAt xs i n
theorem wt_putW (l : List Nd) (way : List Int) (n : Nd) : wtNds (putW l way n) ≤ wtNds l + wtNd n := wt_onW fun xs i => wt_putAt xs i n
theorem wt_cutW (l : List Nd) (way : List Int) : wtNds (cutW l way) ≤ wtNds l := wt_onW (m := 0) wt_cutAt
theorem wt_sub (l : List Nd) (way : List Int) : wtNds (subW l way) ≤ wtNds l := by
  unfold subW
  cases hs : stepsW l way.dropLast with
  | none => simp [wtNds]
  | some xs => exact wt_steps hs
theorem wt_at (l : List Nd) (way : List Int) {n : Nd} (h : atW l way = some n) : wtNd n ≤ wtNds l := by
  unfold atW at h
  split at h
  · cases h
  · cases hs : stepsW l way.dropLast with
    | none => rw [hs] at h; cases h
    | some xs =>
      rw [hs, Option.bind_some] at h
      split at h
      · rename_i hi
        injection h with h
        have := wt_getD hi
        have := wt_steps hs
        rw [← h]; omega
      · cases h
theorem atErr_zero {l : List Nd} {way : List Int} (h : atErr l way = 0) : ∃ xs n, way ≠ [] ∧ stepsW l way.dropLast = some xs ∧ inB xs (lastW way) = true ∧ atW l way = some n ∧ foundW l way = true ∧ subW l way = xs := by
  unfold atErr at h
  split at h
  · cases h
  · rename_i hw
    split at h
    · rename_i ha
      obtain ⟨n, hn⟩ := Option.isSome_iff_exists.1 ha
      have hn0 := hn
      unfold atW at hn
      rw [if_neg hw] at hn
      cases hs : stepsW l way.dropLast with
      | none => rw [hs] at hn; cases hn
      | some xs =>
        rw [hs, Option.bind_some] at hn
        split at hn
        · rename_i hi
          exact ⟨xs, n, fun e => hw (by rw [e]; rfl), rfl, hi, hn0, by unfold foundW; rw [hs]; rfl, by unfold subW; rw [hs]; rfl⟩
        · cases hn
    · cases h
theorem atErr_cases (l : List Nd) (way : List Int) : (atErr l way = 0 ∧ (atW l way).isSome = true) ∨ (atErr l way ≠ 0 ∧ atW l way = none) := by
  unfold atErr
  split
  · rename_i h; right; exact ⟨by decide, by unfold atW; rw [if_pos h]⟩
  · split
    · rename_i h; exact .inl ⟨rfl, h⟩
    · rename_i h; right; exact ⟨by decide, by simpa using h⟩
end Go.Proofs.Ytmkjjopflncedaa.AXP
namespace Go.Proofs.Ytmkjjopflncedaa.AX
open Go AXP
set_option maxRecDepth 100000
/-- A result that is known in another form. -/
theorem Meets.res_tup {cx : Cx} {f : Nat} {args : List AV} {hp : List Blk} {ans : Ans} {xs ys : List AV} (e : ans.res = .tup xs) (h : All2 AVle xs ys) (hm : Meets cx f args hp ans) : Meets cx f args hp { ans with res := .tup ys } := by
  intro F I w vals hH hv hpre
  refine (hm F I w vals hH hv hpre).mono ?_
  rintro e' w' ⟨v, I', h1, h2, h3⟩
  refine ⟨v, I', h1, ?_, h3⟩
  rw [e] at h2
  obtain ⟨us, h4, h5⟩ := h2
  refine ⟨us, h4, .of (h5.length.trans h.length) fun i v y hi hy => ?_⟩
  obtain ⟨x, hx, hxy⟩ := h.get hy
  obtain ⟨v', hv', hr⟩ := h5.get hx
  rw [hi] at hv'; injection hv' with hv'; subst hv'
  exact hxy _ _ _ _ hr
theorem nilNd_le : AVle (.agg nilNd) (.agg (nodeL default)) := fun w O I v hv => by
  obtain ⟨cs, h1, h2⟩ := hv
  refine ⟨cs, h1, ?_⟩
  unfold nilNd at h2
  cases h2 with | cons a0 t => cases t with | cons a1 t => cases t with | cons a2 t => cases t with | cons a3 t => cases t with | cons a4 t => cases t with | cons a5 t => cases t with | nil =>
  cases a3; cases a5
  exact .cons a0 (.cons a1 (.cons a2 (.cons (.row0 _) (.cons a4 (.cons (.row0 _) .nil)))))
theorem in_holds : Holds 88 conIn := conP_holds fun l i => by
  refine fun_meets0 tok0 [] (by kernel_rfl) (by kernel_rfl) fun hpre => Eq.mpr (vcInF l i _) ?_
  refine ⟨fun h1 => ⟨fun _ => qfin rfl ?_ rfl rfl⟩, fun h1 => qfin rfl ?_ rfl rfl⟩
  · show [AV.bool _] = [AV.bool _]
    have h1 : 0 ≤ i := by simpa using h1
    unfold inB; rw [decide_eq_true h1, Bool.true_and]
  · show [AV.bool _] = [AV.bool _]
    have h1 : ¬ 0 ≤ i := by simpa using h1
    unfold inB; rw [decide_eq_false h1, Bool.false_and]
theorem at_sum : SumOK cxAt (LL Try.f65 [lsAt]) Try.f65.ntmps (loopAt Try.f65 0).1 (loopAt Try.f65 0).2 lsAt := by
  intro vs bs K hs
  unfold lsAt at hs
  simp only at hs
  split at hs
  case h_2 => exact hs.elim
  rename_i cur way e ws m i c0 c1 c2 c4
  obtain ⟨⟨rfl, rfl, hl⟩, h⟩ := hs
  refine sum_for (fun i => goesW cur (ws.take i) = true) (fun i => [.row .node (endW cur (ws.take i)), .row .int way, .ptr 0 0, .int .i64 e, .row .int ws, .int .i64 ws.length, .int .i64 i]) (fun i => [.box [.int .i64 c0, .int .i64 c1, .str c2, .nil, .str c4, .nil]]) ws.length (fun i hi hp R hR => ?_) (fun hp R => ?_) rfl
  · have hg := goesW_some hp
    have ew : ws = ws.take i ++ ws[i] :: ws.drop (i + 1) := by rw [← List.drop_eq_getElem_cons hi, List.take_append_drop]
    refine Eq.mpr (vcAtB _ way ws e ws.length i c0 c1 c2 c4 _) ⟨fun _ => ⟨⟨by omega, by omega⟩, ⟨fun h1 => ?_, fun h1 => ?_⟩⟩, fun h => lt_of h hi⟩
    · rw [rd_int hi] at h1
      have h1 := ret_false h1
      obtain ⟨z1, z2⟩ := endW_stop (b := ws.drop (i + 1)) hg h1
      rw [← ew] at z1 z2
      have := h.no (by unfold goesW; rw [z2]; rfl)
      rw [z1] at this
      exact this
    · rw [rd_int hi] at h1 ⊢
      have h1 := ret_true h1
      obtain ⟨z1, z2⟩ := getD_of h1
      have h2 := h1
      simp only [inB, Bool.and_eq_true, decide_eq_true_eq] at h2
      refine ⟨h2, ?_⟩
      have z3 : stepsW cur (ws.take (i + 1)) = some ((endW cur (ws.take i)).getD ws[i].toNat default).kids := by
        rw [← List.take_append_getElem hi, stepsW_snoc hg, if_pos h1]
      have z4 : rd .node (endW cur (ws.take i)) ws[i] = (endW cur (ws.take i)).getD ws[i].toNat default := by
        rw [z2]; exact rd_eq (t := .node) z1
      rw [z4, wrap_succ hi hl]
      have := hR (goesW_of z3)
      rw [endW_of z3] at this
      exact this
  · refine Eq.mpr (vcAtB _ way ws e ws.length ws.length c0 c1 c2 c4 _) ⟨fun h => not_lt_self h, fun _ => ?_⟩
    rw [List.take_length] at hp ⊢
    exact h.yes hp
theorem tokAt : TOK cxAt := AllH.tok (.cons in_holds (by kernel_rfl) (.cons copy_holds (by kernel_rfl) .nil))
/-- What At answers, in the form in which it is built. -/
def atNil (l : List Nd) (way : List Int) : List AV := if (atW l way).isSome = true then nodeL (atN l way) else nilNd
theorem at_meets (l : List Nd) (way : List Int) : Meets cx0 65 [.row .node l, .row .int way] [] { pre := some (wtNds l ≤ wtMx), res := .tup [.agg (atNil l way), .int .i64 (atErr l way)] } := by
  refine fun_meets1 tokAt [] lsAt (by kernel_rfl) (by kernel_rfl) at_sum fun hpre => Eq.mpr (vcAtF l way _) ?_
  have hw := hpre _ rfl
  refine ⟨fun hm => ⟨fun h1 => qfin rfl ?_ rfl rfl, fun h1 => ?_⟩⟩
  · have h1 : way.length = 0 := by simpa using h1
    have e1 : atW l way = none := by unfold atW; rw [if_pos h1]
    have e2 : atErr l way = 1 := by unfold atErr; rw [if_pos h1]
    show _ = [AV.agg (atNil l way), AV.int .i64 (atErr l way)]
    unfold atNil
    rw [e1, e2]; rfl
  have h1 : way.length ≠ 0 := by simpa using h1
  have hw1 : IntKind.i64.wrap ((way.length : Int) - 1) = ((way.length - 1 : Nat) : Int) := by unfold maxSl at hm; rw [wrap_id'] <;> omega
  have hne : way ≠ [] := fun e => h1 (by rw [e]; rfl)
  rw [hw1]
  have e0 : List.drop (Int.toNat 0) (List.take (Int.toNat ((way.length - 1 : Nat) : Int)) way) = way.dropLast := by
    rw [Int.toNat_natCast, List.dropLast_eq_take]; rfl
  rw [e0]
  have e1 : rd .int way ((way.length - 1 : Nat) : Int) = lastW way := by
    rw [rd_int (by omega)]
    unfold lastW
    rw [List.getLastD_eq_getLast?, List.getLast?_eq_some_getLast hne]
    simp [List.getLast_eq_getElem]
  rw [e1]
  refine ⟨⟨by omega, by omega, by omega⟩, ⟨fun _ => ⟨fun hd => ⟨⟨rfl, rfl, hd⟩, ⟨fun h2 => ?_, fun h2 => qfin rfl ?_ rfl rfl⟩⟩⟩⟩⟩
  · have hs := goesW_some h2
    refine ⟨⟨by omega, by omega⟩, ⟨fun _ => ⟨fun h3 => qfin rfl ?_ rfl rfl, fun h3 => ?_⟩⟩⟩
    · have h3 : inB (endW l way.dropLast) (lastW way) = false := ret_false h3
      have e2 : atW l way = none := by unfold atW; rw [if_neg h1, hs, Option.bind_some, if_neg (by rw [h3]; decide)]
      have e3 : atErr l way = 6 := by unfold atErr; rw [if_neg h1, e2]; rfl
      show _ = [AV.agg (atNil l way), AV.int .i64 (atErr l way)]
      unfold atNil
      rw [e2, e3]; rfl
    · have h3 : inB (endW l way.dropLast) (lastW way) = true := ret_true h3
      have e2 : atW l way = some ((endW l way.dropLast).getD (lastW way).toNat default) := by unfold atW; rw [if_neg h1, hs, Option.bind_some, if_pos h3]
      have e3 : atErr l way = 0 := by unfold atErr; rw [if_neg h1, e2]; rfl
      have hwt := wt_at l way e2
      obtain ⟨z1, z2⟩ := getD_of h3
      have z3 := wt_steps hs
      have z4 := wt_len (endW l way.dropLast)
      have h4 := h3
      simp only [inB, Bool.and_eq_true, decide_eq_true_eq] at h4
      have hw2 : IntKind.i64.wrap (lastW way + 1) = lastW way + 1 := by unfold wtMx at hw; rw [wrap_id'] <;> omega
      rw [hw2]
      have e4 : List.drop (lastW way).toNat (List.take (lastW way + 1).toNat (endW l way.dropLast)) = [(endW l way.dropLast).getD (lastW way).toNat default] := by
        rw [show (lastW way + 1).toNat = (lastW way).toNat + 1 by omega, ← List.take_append_getElem z1, List.drop_append_of_le_length (by simp only [List.length_take]; omega), List.drop_of_length_le (by simp only [List.length_take]; omega), z2]; rfl
      rw [e4]
      refine ⟨⟨h4.1, Int.le_of_lt (Int.lt_succ _), Int.add_one_le_of_lt h4.2⟩, ⟨?_, ⟨⟨Int.le_refl _, by simp⟩, qfin rfl ?_ rfl rfl⟩⟩⟩
      · exact fit_of_wt _ (by rw [wt_one]; omega)
      · show _ = [AV.agg (atNil l way), AV.int .i64 (atErr l way)]
        unfold atNil atN
        rw [e2, e3]; rfl
  · have hs := goesW_none h2
    have e2 : atW l way = none := by unfold atW; rw [if_neg h1, hs]; rfl
    have e3 : atErr l way = 6 := by unfold atErr; rw [if_neg h1, e2]; rfl
    show _ = [AV.agg (atNil l way), AV.int .i64 (atErr l way)]
    unfold atNil
    rw [e2, e3]; rfl
theorem at_holds : Holds 65 conAt := conP_holds fun l way => by
  refine Meets.res_tup (ys := [.agg (nodeL (atN l way)), .int .i64 (atErr l way)]) rfl (.cons ?_ (.cons (.refl _) .nil)) (at_meets l way)
  unfold atNil atN
  cases atW l way with
  | none => exact nilNd_le
  | some n => exact .refl _
def conInsert : Con := conP [.row .node, .row .int, .agg .node] fun (l : List Nd) (way : List Int) (n : Nd) => { pre := some (wtNds l + wtNd n ≤ wtMx), res := .tup [.own 0 0, .int .i64 (insErr l way)], extra := [.rowb 0 .node ((insR l way n).getD [])] }
theorem insert_holds : Holds 63 conInsert := conP_holds fun l way n => by
  refine fun_meets0 (AllH.tok (.cons turn_holds (by kernel_rfl) .nil)) [.own .node] (by kernel_rfl) (by kernel_rfl) fun hpre => Eq.mpr (vcInsertF l way n _) ?_
  have hw := hpre _ rfl
  rw [nd_eta]
  refine ⟨fun hm => ⟨fun h1 => qfin rfl ?_ rfl ?_, fun h1 => ?_⟩⟩
  · have h1 : way.length = 0 := by simpa using h1
    show _ = [AV.own 0 0, AV.int .i64 (insErr l way)]
    unfold insErr; rw [if_pos h1]
  · have h1 : way.length = 0 := by simpa using h1
    show _ = [Blk.rowb 0 .node ((insR l way n).getD [])]
    unfold insR; rw [h1]; rfl
  have h1 : way.length ≠ 0 := by simpa using h1
  have hb : (way.length != 0) = true := by simpa using h1
  refine ⟨⟨fun e => h1 (by rw [e]; rfl), fit_of_wt _ (by omega), fit_of_wt _ (by rw [wt_one]; omega), ?_⟩, ⟨fun h2 => qfin rfl ?_ rfl ?_, fun h2 => ⟨fun h3 => qfin rfl ?_ rfl ?_, fun h3 => qfin rfl ?_ rfl ?_⟩⟩⟩
  · have := wt_sub l way
    have := wt_len (subW l way)
    unfold wtMx at hw; unfold maxSl; omega
  · show _ = [AV.own 0 0, AV.int .i64 (insErr l way)]
    unfold insErr; rw [if_neg h1, ret_false h2]; rfl
  · show _ = [Blk.rowb 0 .node ((insR l way n).getD [])]
    unfold insR; rw [ret_false h2, Bool.and_false]; rfl
  · show _ = [AV.own 0 0, AV.int .i64 (insErr l way)]
    unfold insErr; rw [if_neg h1, ret_false h3, Bool.and_false]; rfl
  · show _ = [Blk.rowb 0 .node ((insR l way n).getD [])]
    unfold insR; rw [ret_false h3, Bool.and_false]; rfl
  · show _ = [AV.own 0 0, AV.int .i64 (insErr l way)]
    unfold insErr; rw [if_neg h1, ret_true h2, ret_true h3]; rfl
  · show _ = [Blk.rowb 0 .node ((insR l way n).getD [])]
    unfold insR; rw [hb, ret_true h2, ret_true h3]; rfl
theorem tokPut : TOK cxPut := AllH.tok (.cons at_holds (by kernel_rfl) (.cons turn_holds (by kernel_rfl) .nil))
def conPut : Con := conP [.row .node, .row .int, .agg .node] fun (l : List Nd) (way : List Int) (n : Nd) => { pre := some (wtNds l + wtNd n ≤ wtMx), res := .tup [.own 0 0, .int .i64 (atErr l way)], extra := [.rowb 0 .node ((putR l way n).getD [])] }
theorem put_holds : Holds 68 conPut := conP_holds fun l way n => by
  refine fun_meets0 tokPut [.own .node] (by kernel_rfl) (by kernel_rfl) fun hpre => Eq.mpr (vcPutFn l way n _) ?_
  have hw := hpre _ rfl
  rw [nd_eta]
  refine ⟨Nat.le_trans (Nat.le_add_right _ _) hw, ⟨fun h1 => qfin rfl rfl rfl ?_, fun h1 => ?_⟩⟩
  · have h1 : atErr l way ≠ 0 := by simpa using h1
    rcases atErr_cases l way with ⟨h2, _⟩ | ⟨_, h2⟩
    · exact (h1 h2).elim
    · show _ = [Blk.rowb 0 .node ((putR l way n).getD [])]
      unfold putR; rw [h2]; rfl
  · have h1 : atErr l way = 0 := by simpa using h1
    obtain ⟨xs, x, h2, h3, h4, h5, h6, h7⟩ := atErr_zero h1
    refine ⟨⟨h2, fit_of_wt _ (by omega), fit_of_wt _ (by rw [wt_one]; omega), fun _ => by rw [h7]; exact h4, ?_⟩, qfin rfl ?_ rfl ?_⟩
    · have := wt_sub l way
      have := wt_len (subW l way)
      unfold wtMx at hw; unfold maxSl; omega
    · show _ = [AV.own 0 0, AV.int .i64 (atErr l way)]
      rw [h1]
    · show _ = [Blk.rowb 0 .node ((putR l way n).getD [])]
      unfold putR; rw [h5]; rfl
def conCut : Con := conP [.row .node, .row .int] fun (l : List Nd) (way : List Int) => { pre := some (wtNds l ≤ wtMx), res := .tup [.own 0 0, .int .i64 (atErr l way)], extra := [.rowb 0 .node ((cutR l way).getD [])] }
theorem cut_holds : Holds 67 conCut := conP_holds fun l way => by
  refine fun_meets0 tokPut [.own .node] (by kernel_rfl) (by kernel_rfl) fun hpre => Eq.mpr (vcCutFn l way _) ?_
  have hw := hpre _ rfl
  refine ⟨hw, ⟨fun h1 => qfin rfl rfl rfl ?_, fun h1 => ?_⟩⟩
  · have h1 : atErr l way ≠ 0 := by simpa using h1
    rcases atErr_cases l way with ⟨h2, _⟩ | ⟨_, h2⟩
    · exact (h1 h2).elim
    · show _ = [Blk.rowb 0 .node ((cutR l way).getD [])]
      unfold cutR; rw [h2]; rfl
  · have h1 : atErr l way = 0 := by simpa using h1
    obtain ⟨xs, x, h2, h3, h4, h5, h6, h7⟩ := atErr_zero h1
    refine ⟨⟨h2, fit_of_wt _ hw, fun _ => by rw [h7]; exact h4, ?_⟩, qfin rfl ?_ rfl ?_⟩
    · have := wt_sub l way
      have := wt_len (subW l way)
      unfold wtMx at hw; unfold maxSl; omega
    · show _ = [AV.own 0 0, AV.int .i64 (atErr l way)]
      rw [h1]
    · show _ = [Blk.rowb 0 .node ((cutR l way).getD [])]
      unfold cutR; rw [h5]; rfl
end Go.Proofs.Ytmkjjopflncedaa.AX
end
section
namespace Go.Proofs.Ytmkjjopflncedaa.AXP
open Go Go.Proofs.Ytmkjjopflncedaa.AX
def noneE (e : Int) : Int := if (e != 0) = true then 6 else 0
/-- Is there what was there? -/
def okAt (n : Nd) (x : Ed) : Bool := if (x.what == 3) = true then eql eqAt n.attrs x.old.attrs else if (x.what == 2) = true then eqNd n x.old else eqS n.text x.old.text
def chgNd (n : Nd) (x : Ed) : Nd := if (x.what == 3) = true then { n with attrs := x.new.attrs } else if (x.what == 2) = true then n else { n with text := x.new.text }
def errX {α : Type} : Except Int α → Int
  | .error e => e
  | .ok _ => 0
def okX {α : Type} : Except Int (List α) → List α
  | .error _ => []
  | .ok l => l
def isX {α : Type} : Except Int α → Bool
  | .error _ => false
  | .ok _ => true
/-- An edit, applied. -/
def stepEd (l : List Nd) (x : Ed) : Except Int (List Nd) :=
  if (x.what == 1) = true then (match insR l x.way x.new with
    | some r => .ok r
    | none => .error 6)
  else if (x.what == 2 || x.what == 3 || x.what == 4) = true then (match atW l x.way with
    | none => .error 6
    | some n => if okAt n x = true then .ok (if (x.what == 2) = true then cutW l x.way else putW l x.way (chgNd n x)) else .error 7)
  else .error 4
def applyS : List Nd → List Ed → Except Int (List Nd)
  | l, [] => .ok l
  | l, x :: s => match stepEd l x with
    | .error e => .error e
    | .ok l' => applyS l' s
def stepE (l : List Nd) (x : Ed) : Int := errX (stepEd l x)
def stepL (l : List Nd) (x : Ed) : List Nd := okX (stepEd l x)
def applyE (l : List Nd) (s : List Ed) : Int := errX (applyS l s)
def applyL (l : List Nd) (s : List Ed) : List Nd := okX (applyS l s)
def applyOk (l : List Nd) (s : List Ed) : Bool := isX (applyS l s)
end Go.Proofs.Ytmkjjopflncedaa.AXP
namespace Go.Proofs.Ytmkjjopflncedaa.AX
open Go AXP
def conNoneE : Con := conP [.int] fun (e : Int) => { res := .int .i64 (noneE e) }
def conChanged : Con := conP [.agg .edit, .agg .node] fun (x : Ed) (n : Nd) => { res := .tup [.agg (nodeL (chgNd n x)), .bool (okAt n x)] }
def conStep : Con := conP [.agg .edit, .row .node] fun (x : Ed) (l : List Nd) => { pre := some (2 * wtNds l + wtEd x ≤ wtMx), res := .tup [.own 0 0, .int .i64 (stepE l x)], extra := [.rowb 0 .node (stepL l x)] }
noncomputable def cxChanged : Cx := cxT (tabLook [(73, conEqAts), (47, conEdSame1)])
noncomputable def cxStep : Cx := cxT (tabLook [(63, conInsert), (64, conNoneE), (65, conAt), (66, conChanged), (67, conCut), (68, conPut)])
noncomputable def cxApply : Cx := cxT (tabLook [(36, conCopy), (39, conStep)])
def lsApply : LS where
  keep := [(4, .as), (5, .as), (6, .own .node), (12, .as), (13, .as), (14, .as)]
  left := [(4, .as), (5, .as), (6, .own .node)]
  sum := fun vs bs K => match vs, bs with
    | [.nil, .int .i64 e, .own 0 0, .row .edit s, .int .i64 m, .int .i64 i], [.rowb 0 .node l] => Rq (m = s.length ∧ i = 0 ∧ s.length ≤ maxSl ∧ 2 * (wtNds l + wtEds s) ≤ wtMx) (Br (applyOk l s) (K (.exit 0) [.nil, .int .i64 e, .own 0 0] [.rowb 0 .node (applyL l s)]) (K .ret [.nil, .int .i64 (applyE l s), .own 0 0] [.rowb 0 .node []]))
    | _, _ => False
end Go.Proofs.Ytmkjjopflncedaa.AX
end
section
namespace Go.Proofs.Ytmkjjopflncedaa.AX
open Go AXP
set_option maxRecDepth 100000
theorem vcNoneEF (e : Int) (Q : List AV → List Blk → List Blk → Prop) : (funA cx0 (LL Try.f64 []) Try.f64 [.int .i64 e] [] [] Q) = (
Br (e != (0 : Int)) (Q [AV.int IntKind.i64 (6 : Int)] [] []) (Q [AV.int IntKind.i64 (0 : Int)] [] [])) := by kernel_rfl
theorem vcChangedF (x : Ed) (n : Nd) (Q : List AV → List Blk → List Blk → Prop) : (funA cxChanged (LL Try.f66 []) Try.f66 [.agg (leaves .edit x), .agg (leaves .node n)] [] [] Q) = (
Br (x.1 == (3 : Int))
  (Q
    [AV.agg
        [AV.int IntKind.i64 n.1, AV.int IntKind.i64 n.2, AV.str n.3, AV.row Ty.attr x.new.4, AV.str n.5,
          AV.row Ty.node n.6],
      AV.bool (eql eqAt n.4 x.old.4)]
    [] [])
  (Br (x.1 == (2 : Int))
    (Q
      [AV.agg
          [AV.int IntKind.i64 n.1, AV.int IntKind.i64 n.2, AV.str n.3, AV.row Ty.attr n.4, AV.str n.5,
            AV.row Ty.node n.6],
        AV.bool (eqNd (Nd.mk n.1 n.2 n.3 n.4 n.5 n.6) (Nd.mk x.old.1 x.old.2 x.old.3 x.old.4 x.old.5 x.old.6))]
      [] [])
    (Q
      [AV.agg
          [AV.int IntKind.i64 n.1, AV.int IntKind.i64 n.2, AV.str n.3, AV.row Ty.attr n.4, AV.str x.new.5,
            AV.row Ty.node n.6],
        AV.bool (eqS n.5 x.old.5)]
      [] []))) := by kernel_rfl
theorem vcStepF (x : Ed) (l : List Nd) (Q : List AV → List Blk → List Blk → Prop) : (funA cxStep (LL Try.f39 []) Try.f39 [.agg (leaves .edit x), .row .node l] [] [.own .node] Q) = (
Br (x.1 == (1 : Int))
  (Rq (wtNds l + wtNd (Nd.mk x.new.1 x.new.2 x.new.3 x.new.4 x.new.5 x.new.6) ≤ wtMx)
    (Q [AV.own (0 : Nat) (0 : Nat), AV.int IntKind.i64 (noneE (insErr l x.2))] []
      [Blk.rowb (0 : Nat) Ty.node ((insR l x.2 (Nd.mk x.new.1 x.new.2 x.new.3 x.new.4 x.new.5 x.new.6)).getD [])]))
  (Br (x.1 == (2 : Int))
    (Rq (wtNds l ≤ wtMx)
      (Br (atErr l x.2 != (0 : Int))
        (Q [AV.own (0 : Nat) (0 : Nat), AV.int IntKind.i64 (6 : Int)] [] [Blk.rowb (0 : Nat) Ty.node []])
        (Br
          (!okAt
              (Nd.mk (atN l x.way).1 (atN l x.way).2 (atN l x.way).3
                (atN l x.way).4 (atN l x.way).5 (atN l x.way).6)
              (Ed.mk x.1 x.2 (Nd.mk x.old.1 x.old.2 x.old.3 x.old.4 x.old.5 x.old.6)
                (Nd.mk x.new.1 x.new.2 x.new.3 x.new.4 x.new.5 x.new.6)))
          (Q [AV.own (0 : Nat) (0 : Nat), AV.int IntKind.i64 (7 : Int)] [] [Blk.rowb (0 : Nat) Ty.node []])
          (Br (x.1 == (2 : Int))
            (Rq (wtNds l ≤ wtMx)
              (Q [AV.own (0 : Nat) (0 : Nat), AV.int IntKind.i64 (atErr l x.2)] []
                [Blk.rowb (0 : Nat) Ty.node ((cutR l x.2).getD [])]))
            (Rq
              (wtNds l +
                  wtNd
                    (Nd.mk
                      (chgNd
                          (Nd.mk (atN l x.way).kind (atN l x.way).space
                            (atN l x.way).name (atN l x.way).attrs
                            (atN l x.way).text (atN l x.way).kids)
                          (Ed.mk x.what x.way
                            (Nd.mk x.old.kind x.old.space x.old.name x.old.attrs x.old.text x.old.kids)
                            (Nd.mk x.new.kind x.new.space x.new.name x.new.attrs x.new.text x.new.kids))).1
                      (chgNd
                          (Nd.mk (atN l x.way).kind (atN l x.way).space
                            (atN l x.way).name (atN l x.way).attrs
                            (atN l x.way).text (atN l x.way).kids)
                          (Ed.mk x.what x.way
                            (Nd.mk x.old.kind x.old.space x.old.name x.old.attrs x.old.text x.old.kids)
                            (Nd.mk x.new.kind x.new.space x.new.name x.new.attrs x.new.text x.new.kids))).2
                      (chgNd
                          (Nd.mk (atN l x.way).kind (atN l x.way).space
                            (atN l x.way).name (atN l x.way).attrs
                            (atN l x.way).text (atN l x.way).kids)
                          (Ed.mk x.what x.way
                            (Nd.mk x.old.kind x.old.space x.old.name x.old.attrs x.old.text x.old.kids)
                            (Nd.mk x.new.kind x.new.space x.new.name x.new.attrs x.new.text x.new.kids))).3
                      (chgNd
                          (Nd.mk (atN l x.way).kind (atN l x.way).space
                            (atN l x.way).name (atN l x.way).attrs
                            (atN l x.way).text (atN l x.way).kids)
                          (Ed.mk x.what x.way
                            (Nd.mk x.old.kind x.old.space x.old.name x.old.attrs x.old.text x.old.kids)
                            (Nd.mk x.new.kind x.new.space x.new.name x.new.attrs x.new.text x.new.kids))).4
                      (chgNd
                          (Nd.mk (atN l x.way).kind (atN l x.way).space
                            (atN l x.way).name (atN l x.way).attrs
                            (atN l x.way).text (atN l x.way).kids)
                          (Ed.mk x.what x.way
                            (Nd.mk x.old.kind x.old.space x.old.name x.old.attrs x.old.text x.old.kids)
                            (Nd.mk x.new.kind x.new.space x.new.name x.new.attrs x.new.text x.new.kids))).5
                      (chgNd
                          (Nd.mk (atN l x.way).kind (atN l x.way).space
                            (atN l x.way).name (atN l x.way).attrs
                            (atN l x.way).text (atN l x.way).kids)
                          (Ed.mk x.what x.way
                            (Nd.mk x.old.kind x.old.space x.old.name x.old.attrs x.old.text x.old.kids)
                            (Nd.mk x.new.kind x.new.space x.new.name x.new.attrs x.new.text x.new.kids))).6) ≤
                wtMx)
              (Q [AV.own (0 : Nat) (0 : Nat), AV.int IntKind.i64 (atErr l x.2)] []
                [Blk.rowb (0 : Nat) Ty.node
                    ((putR l x.2
                          (Nd.mk
                            (chgNd
                                (Nd.mk (atN l x.way).kind (atN l x.way).space
                                  (atN l x.way).name (atN l x.way).attrs
                                  (atN l x.way).text (atN l x.way).kids)
                                (Ed.mk x.what x.way
                                  (Nd.mk x.old.kind x.old.space x.old.name x.old.attrs x.old.text x.old.kids)
                                  (Nd.mk x.new.kind x.new.space x.new.name x.new.attrs x.new.text x.new.kids))).1
                            (chgNd
                                (Nd.mk (atN l x.way).kind (atN l x.way).space
                                  (atN l x.way).name (atN l x.way).attrs
                                  (atN l x.way).text (atN l x.way).kids)
                                (Ed.mk x.what x.way
                                  (Nd.mk x.old.kind x.old.space x.old.name x.old.attrs x.old.text x.old.kids)
                                  (Nd.mk x.new.kind x.new.space x.new.name x.new.attrs x.new.text x.new.kids))).2
                            (chgNd
                                (Nd.mk (atN l x.way).kind (atN l x.way).space
                                  (atN l x.way).name (atN l x.way).attrs
                                  (atN l x.way).text (atN l x.way).kids)
                                (Ed.mk x.what x.way
                                  (Nd.mk x.old.kind x.old.space x.old.name x.old.attrs x.old.text x.old.kids)
                                  (Nd.mk x.new.kind x.new.space x.new.name x.new.attrs x.new.text x.new.kids))).3
                            (chgNd
                                (Nd.mk (atN l x.way).kind (atN l x.way).space
                                  (atN l x.way).name (atN l x.way).attrs
                                  (atN l x.way).text (atN l x.way).kids)
                                (Ed.mk x.what x.way
                                  (Nd.mk x.old.kind x.old.space x.old.name x.old.attrs x.old.text x.old.kids)
                                  (Nd.mk x.new.kind x.new.space x.new.name x.new.attrs x.new.text x.new.kids))).4
                            (chgNd
                                (Nd.mk (atN l x.way).kind (atN l x.way).space
                                  (atN l x.way).name (atN l x.way).attrs
                                  (atN l x.way).text (atN l x.way).kids)
                                (Ed.mk x.what x.way
                                  (Nd.mk x.old.kind x.old.space x.old.name x.old.attrs x.old.text x.old.kids)
                                  (Nd.mk x.new.kind x.new.space x.new.name x.new.attrs x.new.text x.new.kids))).5
                            (chgNd
                                (Nd.mk (atN l x.way).kind (atN l x.way).space
                                  (atN l x.way).name (atN l x.way).attrs
                                  (atN l x.way).text (atN l x.way).kids)
                                (Ed.mk x.what x.way
                                  (Nd.mk x.old.kind x.old.space x.old.name x.old.attrs x.old.text x.old.kids)
                                  (Nd.mk x.new.kind x.new.space x.new.name x.new.attrs x.new.text x.new.kids))).6)).getD
                      [])]))))))
    (Br (x.1 == (3 : Int))
      (Rq (wtNds l ≤ wtMx)
        (Br (atErr l x.2 != (0 : Int))
          (Q [AV.own (0 : Nat) (0 : Nat), AV.int IntKind.i64 (6 : Int)] [] [Blk.rowb (0 : Nat) Ty.node []])
          (Br
            (!okAt
                (Nd.mk (atN l x.way).1 (atN l x.way).2 (atN l x.way).3
                  (atN l x.way).4 (atN l x.way).5 (atN l x.way).6)
                (Ed.mk x.1 x.2 (Nd.mk x.old.1 x.old.2 x.old.3 x.old.4 x.old.5 x.old.6)
                  (Nd.mk x.new.1 x.new.2 x.new.3 x.new.4 x.new.5 x.new.6)))
            (Q [AV.own (0 : Nat) (0 : Nat), AV.int IntKind.i64 (7 : Int)] [] [Blk.rowb (0 : Nat) Ty.node []])
            (Br (x.1 == (2 : Int))
              (Rq (wtNds l ≤ wtMx)
                (Q [AV.own (0 : Nat) (0 : Nat), AV.int IntKind.i64 (atErr l x.2)] []
                  [Blk.rowb (0 : Nat) Ty.node ((cutR l x.2).getD [])]))
              (Rq
                (wtNds l +
                    wtNd
                      (Nd.mk
                        (chgNd
                            (Nd.mk (atN l x.way).kind (atN l x.way).space
                              (atN l x.way).name (atN l x.way).attrs
                              (atN l x.way).text (atN l x.way).kids)
                            (Ed.mk x.what x.way
                              (Nd.mk x.old.kind x.old.space x.old.name x.old.attrs x.old.text x.old.kids)
                              (Nd.mk x.new.kind x.new.space x.new.name x.new.attrs x.new.text x.new.kids))).1
                        (chgNd
                            (Nd.mk (atN l x.way).kind (atN l x.way).space
                              (atN l x.way).name (atN l x.way).attrs
                              (atN l x.way).text (atN l x.way).kids)
                            (Ed.mk x.what x.way
                              (Nd.mk x.old.kind x.old.space x.old.name x.old.attrs x.old.text x.old.kids)
                              (Nd.mk x.new.kind x.new.space x.new.name x.new.attrs x.new.text x.new.kids))).2
                        (chgNd
                            (Nd.mk (atN l x.way).kind (atN l x.way).space
                              (atN l x.way).name (atN l x.way).attrs
                              (atN l x.way).text (atN l x.way).kids)
                            (Ed.mk x.what x.way
                              (Nd.mk x.old.kind x.old.space x.old.name x.old.attrs x.old.text x.old.kids)
                              (Nd.mk x.new.kind x.new.space x.new.name x.new.attrs x.new.text x.new.kids))).3
                        (chgNd
                            (Nd.mk (atN l x.way).kind (atN l x.way).space
                              (atN l x.way).name (atN l x.way).attrs
                              (atN l x.way).text (atN l x.way).kids)
                            (Ed.mk x.what x.way
                              (Nd.mk x.old.kind x.old.space x.old.name x.old.attrs x.old.text x.old.kids)
                              (Nd.mk x.new.kind x.new.space x.new.name x.new.attrs x.new.text x.new.kids))).4
                        (chgNd
                            (Nd.mk (atN l x.way).kind (atN l x.way).space
                              (atN l x.way).name (atN l x.way).attrs
                              (atN l x.way).text (atN l x.way).kids)
                            (Ed.mk x.what x.way
                              (Nd.mk x.old.kind x.old.space x.old.name x.old.attrs x.old.text x.old.kids)
                              (Nd.mk x.new.kind x.new.space x.new.name x.new.attrs x.new.text x.new.kids))).5
                        (chgNd
                            (Nd.mk (atN l x.way).kind (atN l x.way).space
                              (atN l x.way).name (atN l x.way).attrs
                              (atN l x.way).text (atN l x.way).kids)
                            (Ed.mk x.what x.way
                              (Nd.mk x.old.kind x.old.space x.old.name x.old.attrs x.old.text x.old.kids)
                              (Nd.mk x.new.kind x.new.space x.new.name x.new.attrs x.new.text x.new.kids))).6) ≤
                  wtMx)
                (Q [AV.own (0 : Nat) (0 : Nat), AV.int IntKind.i64 (atErr l x.2)] []
                  [Blk.rowb (0 : Nat) Ty.node
                      ((putR l x.2
                            (Nd.mk
                              (chgNd
                                  (Nd.mk (atN l x.way).kind (atN l x.way).space
                                    (atN l x.way).name (atN l x.way).attrs
                                    (atN l x.way).text (atN l x.way).kids)
                                  (Ed.mk x.what x.way
                                    (Nd.mk x.old.kind x.old.space x.old.name x.old.attrs x.old.text x.old.kids)
                                    (Nd.mk x.new.kind x.new.space x.new.name x.new.attrs x.new.text x.new.kids))).1
                              (chgNd
                                  (Nd.mk (atN l x.way).kind (atN l x.way).space
                                    (atN l x.way).name (atN l x.way).attrs
                                    (atN l x.way).text (atN l x.way).kids)
                                  (Ed.mk x.what x.way
                                    (Nd.mk x.old.kind x.old.space x.old.name x.old.attrs x.old.text x.old.kids)
                                    (Nd.mk x.new.kind x.new.space x.new.name x.new.attrs x.new.text x.new.kids))).2
                              (chgNd
                                  (Nd.mk (atN l x.way).kind (atN l x.way).space
                                    (atN l x.way).name (atN l x.way).attrs
                                    (atN l x.way).text (atN l x.way).kids)
                                  (Ed.mk x.what x.way
                                    (Nd.mk x.old.kind x.old.space x.old.name x.old.attrs x.old.text x.old.kids)
                                    (Nd.mk x.new.kind x.new.space x.new.name x.new.attrs x.new.text x.new.kids))).3
                              (chgNd
                                  (Nd.mk (atN l x.way).kind (atN l x.way).space
                                    (atN l x.way).name (atN l x.way).attrs
                                    (atN l x.way).text (atN l x.way).kids)
                                  (Ed.mk x.what x.way
                                    (Nd.mk x.old.kind x.old.space x.old.name x.old.attrs x.old.text x.old.kids)
                                    (Nd.mk x.new.kind x.new.space x.new.name x.new.attrs x.new.text x.new.kids))).4
                              (chgNd
                                  (Nd.mk (atN l x.way).kind (atN l x.way).space
                                    (atN l x.way).name (atN l x.way).attrs
                                    (atN l x.way).text (atN l x.way).kids)
                                  (Ed.mk x.what x.way
                                    (Nd.mk x.old.kind x.old.space x.old.name x.old.attrs x.old.text x.old.kids)
                                    (Nd.mk x.new.kind x.new.space x.new.name x.new.attrs x.new.text x.new.kids))).5
                              (chgNd
                                  (Nd.mk (atN l x.way).kind (atN l x.way).space
                                    (atN l x.way).name (atN l x.way).attrs
                                    (atN l x.way).text (atN l x.way).kids)
                                  (Ed.mk x.what x.way
                                    (Nd.mk x.old.kind x.old.space x.old.name x.old.attrs x.old.text x.old.kids)
                                    (Nd.mk x.new.kind x.new.space x.new.name x.new.attrs x.new.text
                                      x.new.kids))).6)).getD
                        [])]))))))
      (Br (x.1 == (4 : Int))
        (Rq (wtNds l ≤ wtMx)
          (Br (atErr l x.2 != (0 : Int))
            (Q [AV.own (0 : Nat) (0 : Nat), AV.int IntKind.i64 (6 : Int)] [] [Blk.rowb (0 : Nat) Ty.node []])
            (Br
              (!okAt
                  (Nd.mk (atN l x.way).1 (atN l x.way).2 (atN l x.way).3
                    (atN l x.way).4 (atN l x.way).5 (atN l x.way).6)
                  (Ed.mk x.1 x.2 (Nd.mk x.old.1 x.old.2 x.old.3 x.old.4 x.old.5 x.old.6)
                    (Nd.mk x.new.1 x.new.2 x.new.3 x.new.4 x.new.5 x.new.6)))
              (Q [AV.own (0 : Nat) (0 : Nat), AV.int IntKind.i64 (7 : Int)] [] [Blk.rowb (0 : Nat) Ty.node []])
              (Br (x.1 == (2 : Int))
                (Rq (wtNds l ≤ wtMx)
                  (Q [AV.own (0 : Nat) (0 : Nat), AV.int IntKind.i64 (atErr l x.2)] []
                    [Blk.rowb (0 : Nat) Ty.node ((cutR l x.2).getD [])]))
                (Rq
                  (wtNds l +
                      wtNd
                        (Nd.mk
                          (chgNd
                              (Nd.mk (atN l x.way).kind (atN l x.way).space
                                (atN l x.way).name (atN l x.way).attrs
                                (atN l x.way).text (atN l x.way).kids)
                              (Ed.mk x.what x.way
                                (Nd.mk x.old.kind x.old.space x.old.name x.old.attrs x.old.text x.old.kids)
                                (Nd.mk x.new.kind x.new.space x.new.name x.new.attrs x.new.text x.new.kids))).1
                          (chgNd
                              (Nd.mk (atN l x.way).kind (atN l x.way).space
                                (atN l x.way).name (atN l x.way).attrs
                                (atN l x.way).text (atN l x.way).kids)
                              (Ed.mk x.what x.way
                                (Nd.mk x.old.kind x.old.space x.old.name x.old.attrs x.old.text x.old.kids)
                                (Nd.mk x.new.kind x.new.space x.new.name x.new.attrs x.new.text x.new.kids))).2
                          (chgNd
                              (Nd.mk (atN l x.way).kind (atN l x.way).space
                                (atN l x.way).name (atN l x.way).attrs
                                (atN l x.way).text (atN l x.way).kids)
                              (Ed.mk x.what x.way
                                (Nd.mk x.old.kind x.old.space x.old.name x.old.attrs x.old.text x.old.kids)
                                (Nd.mk x.new.kind x.new.space x.new.name x.new.attrs x.new.text x.new.kids))).3
                          (chgNd
                              (Nd.mk (atN l x.way).kind (atN l x.way).space
                                (atN l x.way).name (atN l x.way).attrs
                                (atN l x.way).text (atN l x.way).kids)
                              (Ed.mk x.what x.way
                                (Nd.mk x.old.kind x.old.space x.old.name x.old.attrs x.old.text x.old.kids)
                                (Nd.mk x.new.kind x.new.space x.new.name x.new.attrs x.new.text x.new.kids))).4
                          (chgNd
                              (Nd.mk (atN l x.way).kind (atN l x.way).space
                                (atN l x.way).name (atN l x.way).attrs
                                (atN l x.way).text (atN l x.way).kids)
                              (Ed.mk x.what x.way
                                (Nd.mk x.old.kind x.old.space x.old.name x.old.attrs x.old.text x.old.kids)
                                (Nd.mk x.new.kind x.new.space x.new.name x.new.attrs x.new.text x.new.kids))).5
                          (chgNd
                              (Nd.mk (atN l x.way).kind (atN l x.way).space
                                (atN l x.way).name (atN l x.way).attrs
                                (atN l x.way).text (atN l x.way).kids)
                              (Ed.mk x.what x.way
                                (Nd.mk x.old.kind x.old.space x.old.name x.old.attrs x.old.text x.old.kids)
                                (Nd.mk x.new.kind x.new.space x.new.name x.new.attrs x.new.text x.new.kids))).6) ≤
                    wtMx)
                  (Q [AV.own (0 : Nat) (0 : Nat), AV.int IntKind.i64 (atErr l x.2)] []
                    [Blk.rowb (0 : Nat) Ty.node
                        ((putR l x.2
                              (Nd.mk
                                (chgNd
                                    (Nd.mk (atN l x.way).kind (atN l x.way).space
                                      (atN l x.way).name (atN l x.way).attrs
                                      (atN l x.way).text (atN l x.way).kids)
                                    (Ed.mk x.what x.way
                                      (Nd.mk x.old.kind x.old.space x.old.name x.old.attrs x.old.text x.old.kids)
                                      (Nd.mk x.new.kind x.new.space x.new.name x.new.attrs x.new.text x.new.kids))).1
                                (chgNd
                                    (Nd.mk (atN l x.way).kind (atN l x.way).space
                                      (atN l x.way).name (atN l x.way).attrs
                                      (atN l x.way).text (atN l x.way).kids)
                                    (Ed.mk x.what x.way
                                      (Nd.mk x.old.kind x.old.space x.old.name x.old.attrs x.old.text x.old.kids)
                                      (Nd.mk x.new.kind x.new.space x.new.name x.new.attrs x.new.text x.new.kids))).2
                                (chgNd
                                    (Nd.mk (atN l x.way).kind (atN l x.way).space
                                      (atN l x.way).name (atN l x.way).attrs
                                      (atN l x.way).text (atN l x.way).kids)
                                    (Ed.mk x.what x.way
                                      (Nd.mk x.old.kind x.old.space x.old.name x.old.attrs x.old.text x.old.kids)
                                      (Nd.mk x.new.kind x.new.space x.new.name x.new.attrs x.new.text x.new.kids))).3
                                (chgNd
                                    (Nd.mk (atN l x.way).kind (atN l x.way).space
                                      (atN l x.way).name (atN l x.way).attrs
                                      (atN l x.way).text (atN l x.way).kids)
                                    (Ed.mk x.what x.way
                                      (Nd.mk x.old.kind x.old.space x.old.name x.old.attrs x.old.text x.old.kids)
                                      (Nd.mk x.new.kind x.new.space x.new.name x.new.attrs x.new.text x.new.kids))).4
                                (chgNd
                                    (Nd.mk (atN l x.way).kind (atN l x.way).space
                                      (atN l x.way).name (atN l x.way).attrs
                                      (atN l x.way).text (atN l x.way).kids)
                                    (Ed.mk x.what x.way
                                      (Nd.mk x.old.kind x.old.space x.old.name x.old.attrs x.old.text x.old.kids)
                                      (Nd.mk x.new.kind x.new.space x.new.name x.new.attrs x.new.text x.new.kids))).5
                                (chgNd
                                    (Nd.mk (atN l x.way).kind (atN l x.way).space
                                      (atN l x.way).name (atN l x.way).attrs
                                      (atN l x.way).text (atN l x.way).kids)
                                    (Ed.mk x.what x.way
                                      (Nd.mk x.old.kind x.old.space x.old.name x.old.attrs x.old.text x.old.kids)
                                      (Nd.mk x.new.kind x.new.space x.new.name x.new.attrs x.new.text
                                        x.new.kids))).6)).getD
                          [])]))))))
        (Q [AV.own (0 : Nat) (0 : Nat), AV.int IntKind.i64 (4 : Int)] [] [Blk.rowb (0 : Nat) Ty.node []]))))) := by kernel_rfl
theorem vcApplyB (l : List Nd) (s : List Ed) (e m i : Int) (K : Ex → List AV → List Blk → Prop) : (bodyA cxApply (LL Try.f20 [lsApply]) Try.f20.ntmps (loopAt Try.f20 0).1 (loopAt Try.f20 0).2 lsApply.keep lsApply.left K [.nil, .int .i64 e, .own 0 0, .row .edit s, .int .i64 m, .int .i64 i] [.rowb 0 .node l]) = (
Br (decide (i < m))
  (Rq ((0 : Int) ≤ i ∧ i < (↑s.length : Int))
    (Rq
      ((2 : Nat) * wtNds l +
          wtEd
            (Ed.mk (rd Ty.edit s i).1 (rd Ty.edit s i).2
              (Nd.mk (rd Ty.edit s i).old.1 (rd Ty.edit s i).old.2 (rd Ty.edit s i).old.3 (rd Ty.edit s i).old.4
                (rd Ty.edit s i).old.5 (rd Ty.edit s i).old.6)
              (Nd.mk (rd Ty.edit s i).new.1 (rd Ty.edit s i).new.2 (rd Ty.edit s i).new.3 (rd Ty.edit s i).new.4
                (rd Ty.edit s i).new.5 (rd Ty.edit s i).new.6)) ≤
        wtMx)
      (Br
        (stepE l
            (Ed.mk (rd Ty.edit s i).1 (rd Ty.edit s i).2
              (Nd.mk (rd Ty.edit s i).old.1 (rd Ty.edit s i).old.2 (rd Ty.edit s i).old.3 (rd Ty.edit s i).old.4
                (rd Ty.edit s i).old.5 (rd Ty.edit s i).old.6)
              (Nd.mk (rd Ty.edit s i).new.1 (rd Ty.edit s i).new.2 (rd Ty.edit s i).new.3 (rd Ty.edit s i).new.4
                (rd Ty.edit s i).new.5 (rd Ty.edit s i).new.6)) !=
          (0 : Int))
        (K Ex.ret
          [AV.nil,
            AV.int IntKind.i64
              (stepE l
                (Ed.mk (rd Ty.edit s i).1 (rd Ty.edit s i).2
                  (Nd.mk (rd Ty.edit s i).old.1 (rd Ty.edit s i).old.2 (rd Ty.edit s i).old.3 (rd Ty.edit s i).old.4
                    (rd Ty.edit s i).old.5 (rd Ty.edit s i).old.6)
                  (Nd.mk (rd Ty.edit s i).new.1 (rd Ty.edit s i).new.2 (rd Ty.edit s i).new.3 (rd Ty.edit s i).new.4
                    (rd Ty.edit s i).new.5 (rd Ty.edit s i).new.6))),
            AV.own (0 : Nat) (0 : Nat)]
          [Blk.rowb (0 : Nat) Ty.node
              (stepL l
                (Ed.mk (rd Ty.edit s i).1 (rd Ty.edit s i).2
                  (Nd.mk (rd Ty.edit s i).old.1 (rd Ty.edit s i).old.2 (rd Ty.edit s i).old.3 (rd Ty.edit s i).old.4
                    (rd Ty.edit s i).old.5 (rd Ty.edit s i).old.6)
                  (Nd.mk (rd Ty.edit s i).new.1 (rd Ty.edit s i).new.2 (rd Ty.edit s i).new.3 (rd Ty.edit s i).new.4
                    (rd Ty.edit s i).new.5 (rd Ty.edit s i).new.6)))])
        (K Ex.norm
          [AV.nil, AV.int IntKind.i64 e, AV.own (0 : Nat) (0 : Nat), AV.row Ty.edit s, AV.int IntKind.i64 m,
            AV.int IntKind.i64 (IntKind.i64.wrap (i + (1 : Int)))]
          [Blk.rowb (0 : Nat) Ty.node
              (stepL l
                (Ed.mk (rd Ty.edit s i).1 (rd Ty.edit s i).2
                  (Nd.mk (rd Ty.edit s i).old.1 (rd Ty.edit s i).old.2 (rd Ty.edit s i).old.3 (rd Ty.edit s i).old.4
                    (rd Ty.edit s i).old.5 (rd Ty.edit s i).old.6)
                  (Nd.mk (rd Ty.edit s i).new.1 (rd Ty.edit s i).new.2 (rd Ty.edit s i).new.3 (rd Ty.edit s i).new.4
                    (rd Ty.edit s i).new.5 (rd Ty.edit s i).new.6)))]))))
  (K (Ex.exit (0 : Nat)) [AV.nil, AV.int IntKind.i64 e, AV.own (0 : Nat) (0 : Nat)] [Blk.rowb (0 : Nat) Ty.node l])) := by kernel_rfl
theorem vcApplyF (l : List Nd) (s : List Ed) (Q : List AV → List Blk → List Blk → Prop) : (funA cxApply (LL Try.f20 [lsApply]) Try.f20 [.row .node l, .row .edit s] [] [.own .node] Q) = (
Rq (fitNds l)
  (Gv (s.length ≤ maxSl)
    (Rq
      ((↑s.length : Int) = (↑s.length : Int) ∧
        (0 : Int) = (0 : Int) ∧ s.length ≤ maxSl ∧ (2 : Nat) * (wtNds l + wtEds s) ≤ wtMx)
      (Br (applyOk l s)
        (Q [AV.own (0 : Nat) (0 : Nat), AV.int IntKind.i64 (0 : Int)] [] [Blk.rowb (0 : Nat) Ty.node (applyL l s)])
        (Q [AV.own (0 : Nat) (0 : Nat), AV.int IntKind.i64 (applyE l s)] [] [Blk.rowb (0 : Nat) Ty.node []]))))) := by kernel_rfl
end Go.Proofs.Ytmkjjopflncedaa.AX
end
section
namespace Go.Proofs.Ytmkjjopflncedaa.AXP
open Go Go.Proofs.Ytmkjjopflncedaa.AX
theorem ins_cases (l : List Nd) (way : List Int) (n : Nd) : (insErr l way = 0 ∧ insR l way n = some (insW l way n)) ∨ (insErr l way ≠ 0 ∧ insR l way n = none) := by
  unfold insErr insR
  by_cases h : way.length = 0
  · right; rw [if_pos h, h]; exact ⟨by decide, rfl⟩
  · have hb : (way.length != 0) = true := by simpa using h
    rw [if_neg h, hb, Bool.true_and]
    by_cases h2 : (foundW l way && okInsW l way false) = true
    · left; rw [if_pos h2, if_pos h2]; exact ⟨rfl, rfl⟩
    · right; rw [if_neg h2, if_neg h2]; exact ⟨by decide, rfl⟩
theorem stepEd_err {l : List Nd} {x : Ed} {e : Int} (h : stepEd l x = .error e) : e ≠ 0 := by
  unfold stepEd at h
  intro he
  subst he
  split at h
  · split at h <;> cases h
  · split at h
    · split at h
      · cases h
      · split at h <;> cases h
    · cases h
theorem stepE_cases (l : List Nd) (x : Ed) : (stepE l x = 0 ∧ stepEd l x = .ok (stepL l x)) ∨ (stepE l x ≠ 0 ∧ stepEd l x = .error (stepE l x) ∧ stepL l x = []) := by
  unfold stepE stepL
  cases h : stepEd l x with
  | error e => exact .inr ⟨stepEd_err h, rfl, rfl⟩
  | ok l' => exact .inl ⟨rfl, rfl⟩
theorem wt_atW {l : List Nd} {way : List Int} {n : Nd} (h : atW l way = some n) (m : Nd) : wtNds (putW l way m) + wtNd n = wtNds l + wtNd m := by
  unfold atW at h
  split at h
  · cases h
  · cases hs : stepsW l way.dropLast with
    | none => rw [hs] at h; cases h
    | some xs =>
      rw [hs, Option.bind_some] at h
      split at h
      · rename_i hi
        injection h with h
        obtain ⟨z1, z2⟩ := getD_of hi
        rw [z2] at h
        unfold putW onW foundW subW
        rw [hs]
        simp only [Option.isSome_some, if_true, Option.getD_some]
        have h1 := wt_plug (putAt xs (lastW way) m) hs
        have h2 : putAt xs (lastW way) m = xs.set (lastW way).toNat m := by
          unfold putAt
          rw [List.append_assoc, List.singleton_append, List.set_eq_take_append_cons_drop, if_pos z1]
        have h3 := wt_set z1 m
        rw [h2] at h1
        rw [h2, ← h]
        omega
      · cases h
theorem wt_chg (n : Nd) (x : Ed) : wtNd (chgNd n x) ≤ wtNd n + wtNd x.new := by
  unfold chgNd
  split
  · rw [wtNd_eq, wtNd_eq, wtNd_eq]; dsimp only; omega
  · split
    · omega
    · rw [wtNd_eq, wtNd_eq]; dsimp only; omega
theorem wt_step {l l' : List Nd} {x : Ed} (h : stepEd l x = .ok l') : wtNds l' ≤ wtNds l + wtEd x := by
  unfold stepEd at h
  unfold wtEd
  split at h
  · rcases ins_cases l x.way x.new with ⟨_, h1⟩ | ⟨_, h1⟩
    · rw [h1] at h
      injection h with h
      have := wt_insW l x.way x.new
      rw [← h]; omega
    · rw [h1] at h; cases h
  · split at h
    · split at h
      · cases h
      · rename_i n hn
        split at h
        · injection h with h
          rw [← h]
          split
          · have := wt_cutW l x.way; omega
          · have h1 := wt_atW hn (chgNd n x)
            have h2 := wt_chg n x
            omega
        · cases h
    · cases h
theorem applyS_app : ∀ {a b : List Ed} {l : List Nd}, applyS l (a ++ b) = (match applyS l a with
    | .error e => .error e
    | .ok l' => applyS l' b)
  | [], b, l => rfl
  | x :: a, b, l => by
    rw [List.cons_append, applyS, applyS]
    cases stepEd l x with
    | error e => rfl
    | ok l' => exact applyS_app
theorem applyE_err : ∀ {s : List Ed} {l : List Nd} {e : Int}, applyS l s = .error e → e ≠ 0
  | [], l, e, h => by cases h
  | x :: s, l, e, h => by
    rw [applyS] at h
    split at h
    · rename_i h1
      injection h with h
      subst h
      exact stepEd_err h1
    · exact applyE_err h
theorem wt_apply : ∀ {s : List Ed} {l l' : List Nd}, applyS l s = .ok l' → wtNds l' ≤ wtNds l + wtEds s
  | [], l, l', h => by injection h with h; subst h; omega
  | x :: s, l, l', h => by
    rw [applyS] at h
    split at h
    · cases h
    · rename_i h1
      have := wt_step h1
      have := wt_apply h
      rw [wtEds]; omega
theorem wtEds_app : ∀ (a b : List Ed), wtEds (a ++ b) = wtEds a + wtEds b
  | [], b => by simp [wtEds]
  | x :: a, b => by rw [List.cons_append, wtEds, wtEds, wtEds_app a b]; omega
theorem wtEds_len : ∀ (s : List Ed), 3 * s.length ≤ wtEds s
  | [] => by simp
  | x :: s => by
    have := wtEds_len s
    have h : 3 ≤ wtEd x := by unfold wtEd; have := wtNd_pos x.old; have := wtNd_pos x.new; omega
    rw [wtEds, List.length_cons]; omega
theorem wtEds_mem : ∀ {s : List Ed} {x : Ed}, x ∈ s → wtEd x ≤ wtEds s
  | y :: s, x, h => by
    rw [wtEds]
    cases h with
    | head => omega
    | tail _ h => have := wtEds_mem h; omega
theorem applyOk_some {l : List Nd} {s : List Ed} (h : applyOk l s = true) : applyS l s = .ok (applyL l s) := by
  unfold applyOk at h
  unfold applyL
  cases e : applyS l s with
  | error e' => rw [e] at h; cases h
  | ok l' => rfl
theorem applyOk_none {l : List Nd} {s : List Ed} (h : applyOk l s = false) : applyS l s = .error (applyE l s) ∧ applyL l s = [] := by
  unfold applyOk at h
  unfold applyE applyL
  cases e : applyS l s with
  | error e' => exact ⟨rfl, rfl⟩
  | ok l' => rw [e] at h; cases h
end Go.Proofs.Ytmkjjopflncedaa.AXP
namespace Go.Proofs.Ytmkjjopflncedaa.AX
open Go AXP
set_option maxRecDepth 100000
theorem noneE_holds : Holds 64 conNoneE := conP_holds fun e => by
  refine fun_meets0 tok0 [] (by kernel_rfl) (by kernel_rfl) fun hpre => Eq.mpr (vcNoneEF e _) ⟨fun h => qfin rfl ?_ rfl rfl, fun h => qfin rfl ?_ rfl rfl⟩
  · show _ = [AV.int .i64 (noneE e)]; unfold noneE; rw [if_pos h]
  · show _ = [AV.int .i64 (noneE e)]; unfold noneE; rw [if_neg (by rw [h]; decide)]
theorem changed_holds : Holds 66 conChanged := conP_holds fun x n => by
  refine fun_meets0 (AllH.tok (.cons eqAts_holds (by kernel_rfl) (.cons edSame1_holds (by kernel_rfl) .nil))) [] (by kernel_rfl) (by kernel_rfl) fun hpre => Eq.mpr (vcChangedF x n _) ?_
  rw [nd_eta, nd_eta]
  refine ⟨fun h => qfin rfl ?_ rfl rfl, fun h => ⟨fun h2 => qfin rfl ?_ rfl rfl, fun h2 => qfin rfl ?_ rfl rfl⟩⟩ <;> show _ = [AV.agg (nodeL (chgNd n x)), AV.bool (okAt n x)] <;> unfold chgNd okAt nodeL
  · rw [if_pos h, if_pos h]
  · simp only [h, h2, Bool.false_eq_true, if_false, if_true]
  · simp only [h, h2, Bool.false_eq_true, if_false]
theorem tokStep : TOK cxStep := AllH.tok (.cons insert_holds (by kernel_rfl) (.cons noneE_holds (by kernel_rfl) (.cons at_holds (by kernel_rfl) (.cons changed_holds (by kernel_rfl) (.cons cut_holds (by kernel_rfl) (.cons put_holds (by kernel_rfl) .nil))))))
theorem step_meets (x : Ed) (l : List Nd) : Meets cx0 39 [.agg (leaves .edit x), .row .node l] [] { pre := some (2 * wtNds l + wtEd x ≤ wtMx), res := .tup [.own 0 0, .int .i64 (stepE l x)], extra := [.rowb 0 .node (stepL l x)] } := by
  refine fun_meets0 tokStep [.own .node] (by kernel_rfl) (by kernel_rfl) fun hpre => Eq.mpr (vcStepF x l _) ?_
  have hw : 2 * wtNds l + wtEd x ≤ wtMx := hpre _ rfl
  unfold wtEd at hw
  simp only [nd_eta]
  have key : ∀ (Q : List AV → List Blk → List Blk → Prop), Q [.own 0 0, .int .i64 (stepE l x)] [] [.rowb 0 .node (stepL l x)] → (x.1 == 1) = false → (x.1 == 2 || x.1 == 3 || x.1 == 4) = true →
      Rq (wtNds l ≤ wtMx) (Br (atErr l x.2 != 0) (Q [.own 0 0, .int .i64 6] [] [.rowb 0 .node []]) (Br (!okAt (atN l x.2) (Ed.mk x.1 x.2 x.old x.new)) (Q [.own 0 0, .int .i64 7] [] [.rowb 0 .node []])
        (Br (x.1 == 2) (Rq (wtNds l ≤ wtMx) (Q [.own 0 0, .int .i64 (atErr l x.2)] [] [.rowb 0 .node ((cutR l x.2).getD [])]))
          (Rq (wtNds l + wtNd (chgNd (atN l x.2) (Ed.mk x.1 x.2 x.old x.new)) ≤ wtMx) (Q [.own 0 0, .int .i64 (atErr l x.2)] [] [.rowb 0 .node ((putR l x.2 (chgNd (atN l x.2) (Ed.mk x.1 x.2 x.old x.new))).getD [])]))))) := by
    intro Q hQ g1 g2
    unfold stepE stepL stepEd at hQ
    rw [if_neg (by rw [g1]; decide), if_pos g2] at hQ
    refine ⟨by omega, ⟨fun h1 => ?_, fun h1 => ?_⟩⟩
    · have h1 : atErr l x.2 ≠ 0 := by simpa using h1
      rcases atErr_cases l x.2 with ⟨h2, _⟩ | ⟨_, h2⟩
      · exact (h1 h2).elim
      · rw [h2] at hQ; exact hQ
    · have h1 : atErr l x.2 = 0 := by simpa using h1
      obtain ⟨xs, n, _, _, _, h5, _, _⟩ := atErr_zero h1
      have en : atN l x.2 = n := by unfold atN; rw [h5]; rfl
      have hwn := wt_at l x.2 h5
      rw [h5] at hQ
      rw [en, h1]
      refine ⟨fun h2 => ?_, fun h2 => ⟨fun h3 => ⟨by omega, ?_⟩, fun h3 => ⟨?_, ?_⟩⟩⟩
      · have h2 : okAt n x = false := ret_false h2
        simp only [h2] at hQ
        exact hQ
      · have h2 : okAt n x = true := ret_true h2
        simp only [h2, h3, if_true] at hQ
        unfold cutR; rw [h5]
        exact hQ
      · have := wt_chg n x
        have : wtNd (chgNd n (Ed.mk x.1 x.2 x.old x.new)) = wtNd (chgNd n x) := rfl
        omega
      · have h2 : okAt n x = true := ret_true h2
        simp only [h2, h3, if_true] at hQ
        unfold putR; rw [h5]
        exact hQ
  have hfin : FinQ { pre := some (2 * wtNds l + wtEd x ≤ wtMx), res := .tup [.own 0 0, .int .i64 (stepE l x)], extra := [.rowb 0 .node (stepL l x)] } [.own 0 0, .int .i64 (stepE l x)] [] [.rowb 0 .node (stepL l x)] := qfin rfl rfl rfl rfl
  refine ⟨fun h1 => ⟨by omega, qfin rfl ?_ rfl ?_⟩, fun h1 => ⟨fun h2 => key _ hfin h1 (by rw [h2]; rfl), fun h2 => ⟨fun h3 => key _ hfin h1 (by rw [h3]; simp), fun h3 => ⟨fun h4 => key _ hfin h1 (by rw [h4]; simp), fun h4 => qfin rfl ?_ rfl ?_⟩⟩⟩⟩
  · show _ = [AV.own 0 0, AV.int .i64 (stepE l x)]
    unfold stepE stepEd
    rw [if_pos h1]
    rcases ins_cases l x.way x.new with ⟨h2, h3⟩ | ⟨h2, h3⟩
    · rw [h3, show insErr l x.2 = 0 from h2]; rfl
    · rw [h3]; unfold noneE; rw [if_pos (by simpa using h2)]; rfl
  · show _ = [Blk.rowb 0 .node (stepL l x)]
    unfold stepL stepEd
    rw [if_pos h1]
    show [Blk.rowb 0 .node ((insR l x.way x.new).getD [])] = _
    cases insR l x.way x.new <;> rfl
  · show _ = [AV.own 0 0, AV.int .i64 (stepE l x)]
    unfold stepE stepEd
    rw [if_neg (by rw [h1]; decide), if_neg (by simp only [Bool.or_eq_true]; rw [h2, h3, h4]; decide)]; rfl
  · show _ = [Blk.rowb 0 .node (stepL l x)]
    unfold stepL stepEd
    rw [if_neg (by rw [h1]; decide), if_neg (by simp only [Bool.or_eq_true]; rw [h2, h3, h4]; decide)]; rfl
theorem step_holds : Holds 39 conStep := conP_holds fun x l => step_meets x l
theorem tokApply : TOK cxApply := AllH.tok (.cons copy_holds (by kernel_rfl) (.cons step_holds (by kernel_rfl) .nil))
theorem apply_sum : SumOK cxApply (LL Try.f20 [lsApply]) Try.f20.ntmps (loopAt Try.f20 0).1 (loopAt Try.f20 0).2 lsApply := by
  intro vs bs K hs
  unfold lsApply at hs
  simp only at hs
  split at hs
  case h_2 => exact hs.elim
  rename_i e s m i l
  obtain ⟨⟨rfl, rfl, hl, hw⟩, h⟩ := hs
  refine sum_for (fun i => applyOk l (s.take i) = true) (fun i => [.nil, .int .i64 e, .own 0 0, .row .edit s, .int .i64 s.length, .int .i64 i]) (fun i => [.rowb 0 .node (applyL l (s.take i))]) s.length (fun i hi hp R hR => ?_) (fun hp R => ?_) rfl
  · have hg := applyOk_some hp
    have ew : s = s.take i ++ s[i] :: s.drop (i + 1) := by rw [← List.drop_eq_getElem_cons hi, List.take_append_drop]
    have hwt : wtEds s = wtEds (s.take i) + (wtEd s[i] + wtEds (s.drop (i + 1))) := by
      have := wtEds_app (s.take i) (s[i] :: s.drop (i + 1))
      rw [← ew, wtEds] at this; exact this
    have hwc := wt_apply hg
    refine Eq.mpr (vcApplyB _ s e s.length i _) ⟨fun _ => ⟨⟨by omega, by omega⟩, ?_⟩, fun h => lt_of h hi⟩
    rw [rd_ed hi, ed_eta]
    have hnext : applyS l (s.take (i + 1)) = stepEd (applyL l (s.take i)) s[i] := by
      rw [← take_snoc hi, applyS_app, hg]
      simp only [applyS]
      cases stepEd (applyL l (s.take i)) s[i] <;> rfl
    refine ⟨by omega, ⟨fun h1 => ?_, fun h1 => ?_⟩⟩
    · have h1 : stepE (applyL l (s.take i)) s[i] ≠ 0 := by simpa using h1
      rcases stepE_cases (applyL l (s.take i)) s[i] with ⟨z, _⟩ | ⟨_, z1, z2⟩
      · exact (h1 z).elim
      rw [z1] at hnext
      have hall : applyS l s = .error (stepE (applyL l (s.take i)) s[i]) := by
        have hj := applyS_app (a := s.take (i + 1)) (b := s.drop (i + 1)) (l := l)
        rw [List.take_append_drop, hnext] at hj
        exact hj
      have := h.no (by unfold applyOk; rw [hall]; rfl)
      rw [z2]
      rw [show applyE l s = stepE (applyL l (s.take i)) s[i] by unfold applyE; rw [hall]; rfl] at this
      exact this
    · have h1 : stepE (applyL l (s.take i)) s[i] = 0 := by simpa using h1
      rcases stepE_cases (applyL l (s.take i)) s[i] with ⟨_, z⟩ | ⟨z, _⟩
      · rw [z] at hnext
        have e1 : applyL l (s.take (i + 1)) = stepL (applyL l (s.take i)) s[i] := by unfold applyL at hnext ⊢; rw [hnext]; rfl
        rw [wrap_succ hi hl]
        have := hR (by unfold applyOk; rw [hnext]; rfl)
        rw [e1] at this
        exact this
      · exact (z h1).elim
  · refine Eq.mpr (vcApplyB _ s e s.length s.length _) ⟨fun h => not_lt_self h, fun _ => ?_⟩
    rw [List.take_length] at hp ⊢
    exact h.yes hp
def conApply : Con := conP [.row .node, .row .edit] fun (l : List Nd) (s : List Ed) => { pre := some (2 * (wtNds l + wtEds s) ≤ wtMx), res := .tup [.own 0 0, .int .i64 (applyE l s)], extra := [.rowb 0 .node (applyL l s)] }
theorem apply_holds : Holds 20 conApply := conP_holds fun l s => by
  refine fun_meets1 tokApply [.own .node] lsApply (by kernel_rfl) (by kernel_rfl) apply_sum fun hpre => Eq.mpr (vcApplyF l s _) ?_
  have hw : 2 * (wtNds l + wtEds s) ≤ wtMx := hpre _ rfl
  refine ⟨fit_of_wt _ (by omega), ⟨fun hm => ⟨⟨rfl, rfl, hm, hw⟩, ⟨fun h => qfin rfl ?_ rfl rfl, fun h => qfin rfl rfl rfl ?_⟩⟩⟩⟩
  · show _ = [AV.own 0 0, AV.int .i64 (applyE l s)]
    unfold applyE; rw [applyOk_some h]; rfl
  · show _ = [Blk.rowb 0 .node (applyL l s)]
    rw [(applyOk_none h).2]
end Go.Proofs.Ytmkjjopflncedaa.AX
end
section
namespace Go.Proofs.Ytmkjjopflncedaa.AXP
open Go Go.Proofs.Ytmkjjopflncedaa.AX
def whatT (w : Int) : Int := if (w == 1) = true then 2 else if (w == 2) = true then 1 else w
def cancelB (x y : Ed) : Bool := eqEd (turnEd x) y
def meltB (x y : Ed) : Bool := if (x.what != y.what || !eql eqI x.way y.way) = true then false else if (x.what == 4) = true then eqS x.new.text y.old.text else if (x.what == 3) = true then eql eqAt x.new.attrs y.old.attrs else false
/-- The first that is such with the one behind it. -/
def firstN (f : Ed → Ed → Bool) : List Ed → Option Nat
  | x :: y :: l => if f x y = true then some 0 else (firstN f (y :: l)).map (· + 1)
  | _ => none
def firstI (f : Ed → Ed → Bool) (l : List Ed) : Int := match firstN f l with
  | some i => i
  | none => -1
def hasF (f : Ed → Ed → Bool) (l : List Ed) : Bool := (firstN f l).isSome
theorem firstN_lt {f : Ed → Ed → Bool} : ∀ {l : List Ed} {i : Nat}, firstN f l = some i → i + 1 < l.length
  | [], _, h => by cases h
  | [_], _, h => by cases h
  | x :: y :: l, i, h => by
    rw [firstN] at h
    split at h
    · injection h with h; subst h; simp
    · simp only [Option.map_eq_some_iff] at h
      obtain ⟨j, h, rfl⟩ := h
      have := firstN_lt h
      simp only [List.length_cons] at this ⊢; omega
def delTwo (l : List Ed) (i : Nat) : List Ed := l.take i ++ l.drop (i + 2)
def meltAt (l : List Ed) (i : Nat) : List Ed := l.take i ++ [{ l.getD i default with new := (l.getD (i + 1) default).new }] ++ l.drop (i + 2)
/-- A script, shortened. -/
def shortS (l : List Ed) : List Ed :=
  match h : firstN cancelB l with
  | some i => shortS (delTwo l i)
  | none => match h' : firstN meltB l with
    | some i => shortS (meltAt l i)
    | none => l
termination_by l.length
decreasing_by
  · have := firstN_lt h; unfold delTwo; simp only [List.length_append, List.length_take, List.length_drop]; omega
  · have := firstN_lt h'; unfold meltAt; simp only [List.length_append, List.length_take, List.length_drop, List.length_cons, List.length_nil]; omega
/-- A script turned about. -/
def aboutS (s : List Ed) : List Ed := s.reverse.map turnEd
/-- The pages on the way, as far as it goes. -/
def pagesL : List Nd → List Ed → List (List Nd)
  | _, [] => []
  | l, x :: s => match stepEd l x with
    | .error _ => []
    | .ok l' => l' :: pagesL l' s
def stepsR (l : List Nd) (s : List Ed) : List (List Nd) := if applyOk l s = true then l :: pagesL l s else []
end Go.Proofs.Ytmkjjopflncedaa.AXP
namespace Go.Proofs.Ytmkjjopflncedaa.AX
open Go AXP
def conSameOne : Con := conP [.agg .one, .agg .one] fun (x y : Ed) => { res := .bool (eql eqEd [x] [y]) }
def conCancels : Con := conP [.agg .one, .agg .one] fun (x y : Ed) => { pre := some (wtEd x ≤ wtMx), res := .bool (cancelB x y) }
def conMelts : Con := conP [.agg .one, .agg .one] fun (x y : Ed) => { res := .bool (meltB x y) }
noncomputable def cxSameOne : Cx := cxT (tabLook [(22, conEdSame)])
def conTurnedW : Con := conP [.agg .one] fun (x : Ed) => { pre := some (wtEd x ≤ wtMx), res := .agg (editL ⟨whatT x.what, x.way, x.new, x.old⟩) }
noncomputable def cxCancels : Cx := cxT (tabLook [(42, conTurnedW), (72, conSameOne)])
noncomputable def cxMelts : Cx := cxT (tabLook [(46, conEqIts), (73, conEqAts)])
noncomputable def cxFirst : Cx := cxT (tabLook [(50, conCancels), (52, conMelts)])
def lsFirst (g : Nat) (B : Ed → Ed → Bool) : LS where
  keep := [(0, .as), (1, .as), (4, .as), (5, .as)]
  left := [(4, .as)]
  sum := fun vs bs K => match vs, bs with
    | [.row .one l, .fn f [], .int .i64 e, .int .i64 i], [] => Rq (f = g ∧ i = 0 ∧ l.length ≤ maxSl ∧ wtEds l ≤ wtMx) (Br (hasF B l) (K .ret [.int .i64 (firstI B l)] []) (K (.exit 0) [.int .i64 e] []))
    | _, _ => False
def lsFirstC : LS := lsFirst 50 cancelB
def lsFirstM : LS := lsFirst 52 meltB
def conFirstC : Con := conP [.row .one, .fn 50] fun (l : List Ed) (_ : Unit) => { pre := some (wtEds l ≤ wtMx), res := .int .i64 (firstI cancelB l) }
def conFirstM : Con := conP [.row .one, .fn 52] fun (l : List Ed) (_ : Unit) => { pre := some (wtEds l ≤ wtMx), res := .int .i64 (firstI meltB l) }
def conFirst : Con := conOr conFirstC conFirstM
noncomputable def cxAbout : Cx := cxT (tabLook [(40, conOnes), (41, conRevOne), (42, conTurnedW), (43, conEdits)])
def lsAbout : LS where
  keep := [(3, .own .one), (10, .as), (11, .as)]
  left := [(3, .own .one)]
  sum := fun vs bs K => match vs, bs with
    | [.own 0 0, .int .i64 m, .int .i64 i], [.rowb 0 .one l] => Rq (m = l.length ∧ i = 0 ∧ l.length ≤ maxSl ∧ wtEds l ≤ wtMx) (K (.exit 0) [.own 0 0] [.rowb 0 .one (l.map turnEd)])
    | _, _ => False
noncomputable def cxShort : Cx := cxT (tabLook [(40, conOnes), (49, conFirst), (51, conDel .one), (43, conEdits)])
def lsShort : LS where
  keep := [(3, .own .one)]
  left := [(2, .own .edit)]
  sum := fun vs bs K => match vs, bs with
    | [.own 0 0], [.rowb 0 .one l] => Rq (wtEds l ≤ wtMx) (K .ret [.own 0 0] [.rowb 0 .edit (shortS l)])
    | _, _ => False
noncomputable def cxSteps : Cx := cxT (tabLook [(36, conCopy), (20, conApply)])
def lsSteps : LS where
  keep := [(4, .as), (5, .as), (6, .own .nodes), (14, .as), (15, .as), (16, .as)]
  left := [(4, .as), (5, .as), (6, .own .nodes)]
  sum := fun vs bs K => match vs, bs with
    | [.nil, .int .i64 e, .own 0 0, .row .edit s, .int .i64 m, .int .i64 i], [.rowb 0 .nodes out] => Rq (m = s.length ∧ i = 0 ∧ s.length ≤ maxSl ∧ out ≠ [] ∧ 2 * (wtNds (out.getLastD []) + wtEds s) ≤ wtMx ∧ (out.length + s.length) * 24 ≤ maxSl)
      (Br (applyOk (out.getLastD []) s) (K (.exit 0) [.nil, .int .i64 e, .own 0 0] [.rowb 0 .nodes (out ++ pagesL (out.getLastD []) s)]) (K .ret [.nil, .int .i64 (applyE (out.getLastD []) s), .own 0 0] [.rowb 0 .nodes (out ++ pagesL (out.getLastD []) s)]))
    | _, _ => False
end Go.Proofs.Ytmkjjopflncedaa.AX
end
section
namespace Go.Proofs.Ytmkjjopflncedaa.AX
open Go AXP
set_option maxRecDepth 100000
theorem vcSameOneF (x y : Ed) (Q : List AV → List Blk → List Blk → Prop) : (funA cxSameOne (LL Try.f72 []) Try.f72 [.agg (leaves .one x), .agg (leaves .one y)] [] [] Q) = (
Q
  [AV.bool
      (eql eqEd
        [Ed.mk x.1 x.2 (Nd.mk x.old.1 x.old.2 x.old.3 x.old.4 x.old.5 x.old.6)
            (Nd.mk x.new.1 x.new.2 x.new.3 x.new.4 x.new.5 x.new.6)]
        [Ed.mk y.1 y.2 (Nd.mk y.old.1 y.old.2 y.old.3 y.old.4 y.old.5 y.old.6)
            (Nd.mk y.new.1 y.new.2 y.new.3 y.new.4 y.new.5 y.new.6)])]
  [] []) := by kernel_rfl
theorem vcCancelsF (x y : Ed) (Q : List AV → List Blk → List Blk → Prop) : (funA cxCancels (LL Try.f50 []) Try.f50 [.agg (leaves .one x), .agg (leaves .one y)] [] [] Q) = (
Rq
  (wtEd
      (Ed.mk x.1 x.2 (Nd.mk x.old.1 x.old.2 x.old.3 x.old.4 x.old.5 x.old.6)
        (Nd.mk x.new.1 x.new.2 x.new.3 x.new.4 x.new.5 x.new.6)) ≤
    wtMx)
  (Q
    [AV.bool
        (eql eqEd
          [Ed.mk (whatT x.1) x.2 (Nd.mk x.new.1 x.new.2 x.new.3 x.new.4 x.new.5 x.new.6)
              (Nd.mk x.old.1 x.old.2 x.old.3 x.old.4 x.old.5 x.old.6)]
          [Ed.mk y.1 y.2 (Nd.mk y.old.1 y.old.2 y.old.3 y.old.4 y.old.5 y.old.6)
              (Nd.mk y.new.1 y.new.2 y.new.3 y.new.4 y.new.5 y.new.6)])]
    [] [])) := by kernel_rfl
theorem vcMeltsF (x y : Ed) (Q : List AV → List Blk → List Blk → Prop) : (funA cxMelts (LL Try.f52 []) Try.f52 [.agg (leaves .one x), .agg (leaves .one y)] [] [] Q) = (
Br (x.1 != y.1) (Q [AV.bool false] [] [])
  (Br (!eql eqI x.2 y.2) (Q [AV.bool false] [] [])
    (Br (x.1 == (4 : Int)) (Q [AV.bool (eqS x.new.5 y.old.5)] [] [])
      (Br (x.1 == (3 : Int)) (Q [AV.bool (eql eqAt x.new.4 y.old.4)] [] []) (Q [AV.bool false] [] []))))) := by kernel_rfl
theorem vcFirstCB (l : List Ed) (e i : Int) (K : Ex → List AV → List Blk → Prop) : (bodyA cxFirst (LL Try.f49 [lsFirstC]) Try.f49.ntmps (loopAt Try.f49 0).1 (loopAt Try.f49 0).2 lsFirstC.keep lsFirstC.left K [.row .one l, .fn 50 [], .int .i64 e, .int .i64 i] []) = (
Gv (l.length ≤ maxSl)
  (Br (decide (IntKind.i64.wrap (i + (1 : Int)) < (↑l.length : Int)))
    (Rq ((0 : Int) ≤ i ∧ i < (↑l.length : Int))
      (Rq ((0 : Int) ≤ IntKind.i64.wrap (i + (1 : Int)) ∧ IntKind.i64.wrap (i + (1 : Int)) < (↑l.length : Int))
        (Rq
          (wtEd
              (Ed.mk (rd Ty.one l i).1 (rd Ty.one l i).2
                (Nd.mk (rd Ty.one l i).old.1 (rd Ty.one l i).old.2 (rd Ty.one l i).old.3 (rd Ty.one l i).old.4
                  (rd Ty.one l i).old.5 (rd Ty.one l i).old.6)
                (Nd.mk (rd Ty.one l i).new.1 (rd Ty.one l i).new.2 (rd Ty.one l i).new.3 (rd Ty.one l i).new.4
                  (rd Ty.one l i).new.5 (rd Ty.one l i).new.6)) ≤
            wtMx)
          (Br
            (cancelB
              (Ed.mk (rd Ty.one l i).1 (rd Ty.one l i).2
                (Nd.mk (rd Ty.one l i).old.1 (rd Ty.one l i).old.2 (rd Ty.one l i).old.3 (rd Ty.one l i).old.4
                  (rd Ty.one l i).old.5 (rd Ty.one l i).old.6)
                (Nd.mk (rd Ty.one l i).new.1 (rd Ty.one l i).new.2 (rd Ty.one l i).new.3 (rd Ty.one l i).new.4
                  (rd Ty.one l i).new.5 (rd Ty.one l i).new.6))
              (Ed.mk (rd Ty.one l (IntKind.i64.wrap (i + (1 : Int)))).1
                (rd Ty.one l (IntKind.i64.wrap (i + (1 : Int)))).2
                (Nd.mk (rd Ty.one l (IntKind.i64.wrap (i + (1 : Int)))).old.1
                  (rd Ty.one l (IntKind.i64.wrap (i + (1 : Int)))).old.2
                  (rd Ty.one l (IntKind.i64.wrap (i + (1 : Int)))).old.3
                  (rd Ty.one l (IntKind.i64.wrap (i + (1 : Int)))).old.4
                  (rd Ty.one l (IntKind.i64.wrap (i + (1 : Int)))).old.5
                  (rd Ty.one l (IntKind.i64.wrap (i + (1 : Int)))).old.6)
                (Nd.mk (rd Ty.one l (IntKind.i64.wrap (i + (1 : Int)))).new.1
                  (rd Ty.one l (IntKind.i64.wrap (i + (1 : Int)))).new.2
                  (rd Ty.one l (IntKind.i64.wrap (i + (1 : Int)))).new.3
                  (rd Ty.one l (IntKind.i64.wrap (i + (1 : Int)))).new.4
                  (rd Ty.one l (IntKind.i64.wrap (i + (1 : Int)))).new.5
                  (rd Ty.one l (IntKind.i64.wrap (i + (1 : Int)))).new.6)))
            (K Ex.ret [AV.int IntKind.i64 i] [])
            (K Ex.norm
              [AV.row Ty.one l, AV.fn (50 : Nat) [], AV.int IntKind.i64 e,
                AV.int IntKind.i64 (IntKind.i64.wrap (i + (1 : Int)))]
              [])))))
    (K (Ex.exit (0 : Nat)) [AV.int IntKind.i64 e] []))) := by kernel_rfl
theorem vcFirstMB (l : List Ed) (e i : Int) (K : Ex → List AV → List Blk → Prop) : (bodyA cxFirst (LL Try.f49 [lsFirstM]) Try.f49.ntmps (loopAt Try.f49 0).1 (loopAt Try.f49 0).2 lsFirstM.keep lsFirstM.left K [.row .one l, .fn 52 [], .int .i64 e, .int .i64 i] []) = (
Gv (l.length ≤ maxSl)
  (Br (decide (IntKind.i64.wrap (i + (1 : Int)) < (↑l.length : Int)))
    (Rq ((0 : Int) ≤ i ∧ i < (↑l.length : Int))
      (Rq ((0 : Int) ≤ IntKind.i64.wrap (i + (1 : Int)) ∧ IntKind.i64.wrap (i + (1 : Int)) < (↑l.length : Int))
        (Br
          (meltB
            (Ed.mk (rd Ty.one l i).1 (rd Ty.one l i).2
              (Nd.mk (rd Ty.one l i).old.1 (rd Ty.one l i).old.2 (rd Ty.one l i).old.3 (rd Ty.one l i).old.4
                (rd Ty.one l i).old.5 (rd Ty.one l i).old.6)
              (Nd.mk (rd Ty.one l i).new.1 (rd Ty.one l i).new.2 (rd Ty.one l i).new.3 (rd Ty.one l i).new.4
                (rd Ty.one l i).new.5 (rd Ty.one l i).new.6))
            (Ed.mk (rd Ty.one l (IntKind.i64.wrap (i + (1 : Int)))).1 (rd Ty.one l (IntKind.i64.wrap (i + (1 : Int)))).2
              (Nd.mk (rd Ty.one l (IntKind.i64.wrap (i + (1 : Int)))).old.1
                (rd Ty.one l (IntKind.i64.wrap (i + (1 : Int)))).old.2
                (rd Ty.one l (IntKind.i64.wrap (i + (1 : Int)))).old.3
                (rd Ty.one l (IntKind.i64.wrap (i + (1 : Int)))).old.4
                (rd Ty.one l (IntKind.i64.wrap (i + (1 : Int)))).old.5
                (rd Ty.one l (IntKind.i64.wrap (i + (1 : Int)))).old.6)
              (Nd.mk (rd Ty.one l (IntKind.i64.wrap (i + (1 : Int)))).new.1
                (rd Ty.one l (IntKind.i64.wrap (i + (1 : Int)))).new.2
                (rd Ty.one l (IntKind.i64.wrap (i + (1 : Int)))).new.3
                (rd Ty.one l (IntKind.i64.wrap (i + (1 : Int)))).new.4
                (rd Ty.one l (IntKind.i64.wrap (i + (1 : Int)))).new.5
                (rd Ty.one l (IntKind.i64.wrap (i + (1 : Int)))).new.6)))
          (K Ex.ret [AV.int IntKind.i64 i] [])
          (K Ex.norm
            [AV.row Ty.one l, AV.fn (52 : Nat) [], AV.int IntKind.i64 e,
              AV.int IntKind.i64 (IntKind.i64.wrap (i + (1 : Int)))]
            []))))
    (K (Ex.exit (0 : Nat)) [AV.int IntKind.i64 e] []))) := by kernel_rfl
theorem vcFirstCF (l : List Ed) (Q : List AV → List Blk → List Blk → Prop) : (funA cxFirst (LL Try.f49 [lsFirstC]) Try.f49 [.row .one l, .fn 50 []] [] [] Q) = (
Rq ((50 : Nat) = (50 : Nat) ∧ (0 : Int) = (0 : Int) ∧ l.length ≤ maxSl ∧ wtEds l ≤ wtMx)
  (Br (hasF cancelB l) (Q [AV.int IntKind.i64 (firstI cancelB l)] [] []) (Q [AV.int IntKind.i64 (-1 : Int)] [] []))) := by kernel_rfl
theorem vcFirstMF (l : List Ed) (Q : List AV → List Blk → List Blk → Prop) : (funA cxFirst (LL Try.f49 [lsFirstM]) Try.f49 [.row .one l, .fn 52 []] [] [] Q) = (
Rq ((52 : Nat) = (52 : Nat) ∧ (0 : Int) = (0 : Int) ∧ l.length ≤ maxSl ∧ wtEds l ≤ wtMx)
  (Br (hasF meltB l) (Q [AV.int IntKind.i64 (firstI meltB l)] [] []) (Q [AV.int IntKind.i64 (-1 : Int)] [] []))) := by kernel_rfl
theorem vcAboutB (l : List Ed) (m i : Int) (K : Ex → List AV → List Blk → Prop) : (bodyA cxAbout (LL Try.f21 [lsAbout]) Try.f21.ntmps (loopAt Try.f21 0).1 (loopAt Try.f21 0).2 lsAbout.keep lsAbout.left K [.own 0 0, .int .i64 m, .int .i64 i] [.rowb 0 .one l]) = (
Br (decide (i < m))
  (Rq ((0 : Int) ≤ i ∧ i < (↑l.length : Int))
    (Rq
      (wtEd
          (Ed.mk (rd Ty.one l i).1 (rd Ty.one l i).2
            (Nd.mk (rd Ty.one l i).old.1 (rd Ty.one l i).old.2 (rd Ty.one l i).old.3 (rd Ty.one l i).old.4
              (rd Ty.one l i).old.5 (rd Ty.one l i).old.6)
            (Nd.mk (rd Ty.one l i).new.1 (rd Ty.one l i).new.2 (rd Ty.one l i).new.3 (rd Ty.one l i).new.4
              (rd Ty.one l i).new.5 (rd Ty.one l i).new.6)) ≤
        wtMx)
      (Rq ((0 : Int) ≤ i ∧ i < (↑l.length : Int))
        (K Ex.norm
          [AV.own (0 : Nat) (0 : Nat), AV.int IntKind.i64 m, AV.int IntKind.i64 (IntKind.i64.wrap (i + (1 : Int)))]
          [Blk.rowb (0 : Nat) Ty.one
              (l.set i.toNat
                (Ed.mk (whatT (rd Ty.one l i).1) (rd Ty.one l i).2
                  (Nd.mk (rd Ty.one l i).new.1 (rd Ty.one l i).new.2 (rd Ty.one l i).new.3 (rd Ty.one l i).new.4
                    (rd Ty.one l i).new.5 (rd Ty.one l i).new.6)
                  (Nd.mk (rd Ty.one l i).old.1 (rd Ty.one l i).old.2 (rd Ty.one l i).old.3 (rd Ty.one l i).old.4
                    (rd Ty.one l i).old.5 (rd Ty.one l i).old.6)))]))))
  (K (Ex.exit (0 : Nat)) [AV.own (0 : Nat) (0 : Nat)] [Blk.rowb (0 : Nat) Ty.one l])) := by kernel_rfl
theorem vcAboutF (s : List Ed) (Q : List AV → List Blk → List Blk → Prop) : (funA cxAbout (LL Try.f21 [lsAbout]) Try.f21 [.row .edit s] [] [] Q) = (
Rq (s.length * (224 : Nat) ≤ maxSl ∧ fitEds s)
  (Gv (s.reverse.length ≤ maxSl)
    (Rq
      ((↑s.reverse.length : Int) = (↑s.reverse.length : Int) ∧
        (0 : Int) = (0 : Int) ∧ s.reverse.length ≤ maxSl ∧ wtEds s.reverse ≤ wtMx)
      (Rq ((List.map turnEd s.reverse).length * (224 : Nat) ≤ maxSl)
        (Q [AV.own (0 : Nat) (0 : Nat)] [] [Blk.rowb (0 : Nat) Ty.edit (List.map turnEd s.reverse)]))))) := by kernel_rfl
theorem vcShortB (l : List Ed) (K : Ex → List AV → List Blk → Prop) : (bodyA cxShort (LL Try.f25 [lsShort]) Try.f25.ntmps (loopAt Try.f25 0).1 (loopAt Try.f25 0).2 lsShort.keep lsShort.left K [.own 0 0] [.rowb 0 .one l]) = (
Rq (wtEds l ≤ wtMx)
  (Br (decide (firstI cancelB l ≥ (0 : Int)))
    (Rq
      ((0 : Int) ≤ firstI cancelB l ∧
        firstI cancelB l < IntKind.i64.wrap (firstI cancelB l + (2 : Int)) ∧
          IntKind.i64.wrap (firstI cancelB l + (2 : Int)) ≤ (↑l.length : Int))
      (K Ex.norm [AV.own (0 : Nat) (0 : Nat)]
        [Blk.rowb (0 : Nat) Ty.one
            (List.take (firstI cancelB l).toNat l ++
              List.drop (IntKind.i64.wrap (firstI cancelB l + (2 : Int))).toNat l)]))
    (Rq (wtEds l ≤ wtMx)
      (Br (decide (firstI meltB l < (0 : Int)))
        (Rq (l.length * (224 : Nat) ≤ maxSl) (K Ex.ret [AV.own (0 : Nat) (0 : Nat)] [Blk.rowb (0 : Nat) Ty.edit l]))
        (Rq
          ((0 : Int) ≤ IntKind.i64.wrap (firstI meltB l + (1 : Int)) ∧
            IntKind.i64.wrap (firstI meltB l + (1 : Int)) < (↑l.length : Int))
          (Rq ((0 : Int) ≤ firstI meltB l ∧ firstI meltB l < (↑l.length : Int))
            (Rq
              ((0 : Int) ≤ IntKind.i64.wrap (firstI meltB l + (1 : Int)) ∧
                IntKind.i64.wrap (firstI meltB l + (1 : Int)) < IntKind.i64.wrap (firstI meltB l + (2 : Int)) ∧
                  IntKind.i64.wrap (firstI meltB l + (2 : Int)) ≤
                    (↑(l.set (firstI meltB l).toNat
                            (Ed.mk (rd Ty.one l (firstI meltB l)).1 (rd Ty.one l (firstI meltB l)).2
                              (Nd.mk (rd Ty.one l (firstI meltB l)).old.1
                                (rd Ty.one l (firstI meltB l)).old.2
                                (rd Ty.one l (firstI meltB l)).old.3
                                (rd Ty.one l (firstI meltB l)).old.4
                                (rd Ty.one l (firstI meltB l)).old.5
                                (rd Ty.one l (firstI meltB l)).old.6)
                              (Nd.mk (rd Ty.one l (IntKind.i64.wrap (firstI meltB l + (1 : Int)))).new.1
                                (rd Ty.one l (IntKind.i64.wrap (firstI meltB l + (1 : Int)))).new.2
                                (rd Ty.one l (IntKind.i64.wrap (firstI meltB l + (1 : Int)))).new.3
                                (rd Ty.one l (IntKind.i64.wrap (firstI meltB l + (1 : Int)))).new.4
                                (rd Ty.one l (IntKind.i64.wrap (firstI meltB l + (1 : Int)))).new.5
                                (rd Ty.one l (IntKind.i64.wrap (firstI meltB l + (1 : Int)))).new.6))).length :
                      Int))
              (K Ex.norm [AV.own (0 : Nat) (0 : Nat)]
                [Blk.rowb (0 : Nat) Ty.one
                    (List.take (IntKind.i64.wrap (firstI meltB l + (1 : Int))).toNat
                        (l.set (firstI meltB l).toNat
                          (Ed.mk (rd Ty.one l (firstI meltB l)).1 (rd Ty.one l (firstI meltB l)).2
                            (Nd.mk (rd Ty.one l (firstI meltB l)).old.1
                              (rd Ty.one l (firstI meltB l)).old.2 (rd Ty.one l (firstI meltB l)).old.3
                              (rd Ty.one l (firstI meltB l)).old.4 (rd Ty.one l (firstI meltB l)).old.5
                              (rd Ty.one l (firstI meltB l)).old.6)
                            (Nd.mk (rd Ty.one l (IntKind.i64.wrap (firstI meltB l + (1 : Int)))).new.1
                              (rd Ty.one l (IntKind.i64.wrap (firstI meltB l + (1 : Int)))).new.2
                              (rd Ty.one l (IntKind.i64.wrap (firstI meltB l + (1 : Int)))).new.3
                              (rd Ty.one l (IntKind.i64.wrap (firstI meltB l + (1 : Int)))).new.4
                              (rd Ty.one l (IntKind.i64.wrap (firstI meltB l + (1 : Int)))).new.5
                              (rd Ty.one l (IntKind.i64.wrap (firstI meltB l + (1 : Int)))).new.6))) ++
                      List.drop (IntKind.i64.wrap (firstI meltB l + (2 : Int))).toNat
                        (l.set (firstI meltB l).toNat
                          (Ed.mk (rd Ty.one l (firstI meltB l)).1 (rd Ty.one l (firstI meltB l)).2
                            (Nd.mk (rd Ty.one l (firstI meltB l)).old.1
                              (rd Ty.one l (firstI meltB l)).old.2 (rd Ty.one l (firstI meltB l)).old.3
                              (rd Ty.one l (firstI meltB l)).old.4 (rd Ty.one l (firstI meltB l)).old.5
                              (rd Ty.one l (firstI meltB l)).old.6)
                            (Nd.mk (rd Ty.one l (IntKind.i64.wrap (firstI meltB l + (1 : Int)))).new.1
                              (rd Ty.one l (IntKind.i64.wrap (firstI meltB l + (1 : Int)))).new.2
                              (rd Ty.one l (IntKind.i64.wrap (firstI meltB l + (1 : Int)))).new.3
                              (rd Ty.one l (IntKind.i64.wrap (firstI meltB l + (1 : Int)))).new.4
                              (rd Ty.one l (IntKind.i64.wrap (firstI meltB l + (1 : Int)))).new.5
                              (rd Ty.one l (IntKind.i64.wrap (firstI meltB l + (1 : Int)))).new.6))))])))))))) := by kernel_rfl
theorem vcShortF (s : List Ed) (Q : List AV → List Blk → List Blk → Prop) : (funA cxShort (LL Try.f25 [lsShort]) Try.f25 [.row .edit s] [] [] Q) = (
Rq (s.length * (224 : Nat) ≤ maxSl ∧ fitEds s)
  (Rq (wtEds s ≤ wtMx) (Q [AV.own (0 : Nat) (0 : Nat)] [] [Blk.rowb (0 : Nat) Ty.edit (shortS s)]))) := by kernel_rfl
theorem vcStepsB (out : List (List Nd)) (s : List Ed) (e m i : Int) (K : Ex → List AV → List Blk → Prop) : (bodyA cxSteps (LL Try.f16 [lsSteps]) Try.f16.ntmps (loopAt Try.f16 0).1 (loopAt Try.f16 0).2 lsSteps.keep lsSteps.left K [.nil, .int .i64 e, .own 0 0, .row .edit s, .int .i64 m, .int .i64 i] [.rowb 0 .nodes out]) = (
Br (decide (i < m))
  (Rq ((0 : Int) ≤ i ∧ i < (↑s.length : Int))
    (Rq
      ((0 : Int) ≤ IntKind.i64.wrap ((↑out.length : Int) - (1 : Int)) ∧
        IntKind.i64.wrap ((↑out.length : Int) - (1 : Int)) < (↑out.length : Int))
      (Rq
        ((2 : Nat) *
            (wtNds (rd Ty.nodes out (IntKind.i64.wrap ((↑out.length : Int) - (1 : Int)))) +
              wtEds
                [Ed.mk (rd Ty.edit s i).1 (rd Ty.edit s i).2
                    (Nd.mk (rd Ty.edit s i).old.1 (rd Ty.edit s i).old.2 (rd Ty.edit s i).old.3 (rd Ty.edit s i).old.4
                      (rd Ty.edit s i).old.5 (rd Ty.edit s i).old.6)
                    (Nd.mk (rd Ty.edit s i).new.1 (rd Ty.edit s i).new.2 (rd Ty.edit s i).new.3 (rd Ty.edit s i).new.4
                      (rd Ty.edit s i).new.5 (rd Ty.edit s i).new.6)]) ≤
          wtMx)
        (Gv (out.length ≤ maxSl)
          (Br
            (applyE (rd Ty.nodes out (IntKind.i64.wrap ((↑out.length : Int) - (1 : Int))))
                [Ed.mk (rd Ty.edit s i).1 (rd Ty.edit s i).2
                    (Nd.mk (rd Ty.edit s i).old.1 (rd Ty.edit s i).old.2 (rd Ty.edit s i).old.3 (rd Ty.edit s i).old.4
                      (rd Ty.edit s i).old.5 (rd Ty.edit s i).old.6)
                    (Nd.mk (rd Ty.edit s i).new.1 (rd Ty.edit s i).new.2 (rd Ty.edit s i).new.3 (rd Ty.edit s i).new.4
                      (rd Ty.edit s i).new.5 (rd Ty.edit s i).new.6)] !=
              (0 : Int))
            (K Ex.ret
              [AV.nil,
                AV.int IntKind.i64
                  (applyE (rd Ty.nodes out (IntKind.i64.wrap ((↑out.length : Int) - (1 : Int))))
                    [Ed.mk (rd Ty.edit s i).1 (rd Ty.edit s i).2
                        (Nd.mk (rd Ty.edit s i).old.1 (rd Ty.edit s i).old.2 (rd Ty.edit s i).old.3
                          (rd Ty.edit s i).old.4 (rd Ty.edit s i).old.5 (rd Ty.edit s i).old.6)
                        (Nd.mk (rd Ty.edit s i).new.1 (rd Ty.edit s i).new.2 (rd Ty.edit s i).new.3
                          (rd Ty.edit s i).new.4 (rd Ty.edit s i).new.5 (rd Ty.edit s i).new.6)]),
                AV.own (0 : Nat) (0 : Nat)]
              [Blk.rowb (0 : Nat) Ty.nodes out])
            (Rq
              ((out.length +
                    [applyL (rd Ty.nodes out (IntKind.i64.wrap ((↑out.length : Int) - (1 : Int))))
                          [Ed.mk (rd Ty.edit s i).1 (rd Ty.edit s i).2
                              (Nd.mk (rd Ty.edit s i).old.1 (rd Ty.edit s i).old.2 (rd Ty.edit s i).old.3
                                (rd Ty.edit s i).old.4 (rd Ty.edit s i).old.5 (rd Ty.edit s i).old.6)
                              (Nd.mk (rd Ty.edit s i).new.1 (rd Ty.edit s i).new.2 (rd Ty.edit s i).new.3
                                (rd Ty.edit s i).new.4 (rd Ty.edit s i).new.5 (rd Ty.edit s i).new.6)]].length) *
                  (24 : Nat) ≤
                maxSl)
              (K Ex.norm
                [AV.nil, AV.int IntKind.i64 e, AV.own (0 : Nat) (0 : Nat), AV.row Ty.edit s, AV.int IntKind.i64 m,
                  AV.int IntKind.i64 (IntKind.i64.wrap (i + (1 : Int)))]
                [Blk.rowb (0 : Nat) Ty.nodes
                    (out ++
                      [applyL (rd Ty.nodes out (IntKind.i64.wrap ((↑out.length : Int) - (1 : Int))))
                          [Ed.mk (rd Ty.edit s i).1 (rd Ty.edit s i).2
                              (Nd.mk (rd Ty.edit s i).old.1 (rd Ty.edit s i).old.2 (rd Ty.edit s i).old.3
                                (rd Ty.edit s i).old.4 (rd Ty.edit s i).old.5 (rd Ty.edit s i).old.6)
                              (Nd.mk (rd Ty.edit s i).new.1 (rd Ty.edit s i).new.2 (rd Ty.edit s i).new.3
                                (rd Ty.edit s i).new.4 (rd Ty.edit s i).new.5 (rd Ty.edit s i).new.6)]])])))))))
  (K (Ex.exit (0 : Nat)) [AV.nil, AV.int IntKind.i64 e, AV.own (0 : Nat) (0 : Nat)] [Blk.rowb (0 : Nat) Ty.nodes out])) := by kernel_rfl
theorem vcStepsF (l : List Nd) (s : List Ed) (Q : List AV → List Blk → List Blk → Prop) : (funA cxSteps (LL Try.f16 [lsSteps]) Try.f16 [.row .node l, .row .edit s] [] [.own .nodes] Q) = (
Rq (fitNds l)
  (Gv (s.length ≤ maxSl)
    (Rq
      ((↑s.length : Int) = (↑s.length : Int) ∧
        (0 : Int) = (0 : Int) ∧
          s.length ≤ maxSl ∧
            [l] ≠ [] ∧ (2 : Nat) * (wtNds l + wtEds s) ≤ wtMx ∧ ([l].length + s.length) * (24 : Nat) ≤ maxSl)
      (Br (applyOk l s)
        (Q [AV.own (0 : Nat) (0 : Nat), AV.int IntKind.i64 (0 : Int)] []
          [Blk.rowb (0 : Nat) Ty.nodes ([l] ++ pagesL l s)])
        (Q [AV.own (0 : Nat) (0 : Nat), AV.int IntKind.i64 (applyE l s)] [] [Blk.rowb (0 : Nat) Ty.nodes []]))))) := by kernel_rfl
end Go.Proofs.Ytmkjjopflncedaa.AX
end
section
namespace Go.Proofs.Ytmkjjopflncedaa.AXP
open Go Go.Proofs.Ytmkjjopflncedaa.AX
theorem fit_ed {x : Ed} (h : wtEd x ≤ wtMx) : fitEd x := by
  unfold wtEd at h
  refine ⟨fit_of_wt _ (by simp only [wtNds]; omega), ?_⟩
  unfold wtMx at h; unfold maxSl; omega
theorem fit_eds {s : List Ed} (h : wtEds s ≤ wtMx) : fitEds s := fun x hx => fit_ed (Nat.le_trans (wtEds_mem hx) h)
theorem len_eds {s : List Ed} (h : wtEds s ≤ wtMx) : s.length * 224 ≤ maxSl := by
  have := wtEds_len s
  unfold wtMx at h; unfold maxSl; omega
theorem wt_turn (x : Ed) : wtEd (turnEd x) = wtEd x := by unfold wtEd turnEd; dsimp only; omega
theorem wtEds_rev (s : List Ed) : wtEds s.reverse = wtEds s := by
  induction s with
  | nil => rfl
  | cons x s ih => rw [List.reverse_cons, wtEds_app, ih]; simp only [wtEds]; omega
theorem wtEds_map (s : List Ed) : wtEds (s.map turnEd) = wtEds s := by
  induction s with
  | nil => rfl
  | cons x s ih => rw [List.map_cons, wtEds, wtEds, ih, wt_turn]
theorem wtEds_take_drop (s : List Ed) (i : Nat) : wtEds (s.take i) + wtEds (s.drop i) = wtEds s := by rw [← wtEds_app, List.take_append_drop]
theorem firstN_at {f : Ed → Ed → Bool} {l : List Ed} {i : Nat} (h : i + 1 < l.length) : firstN f (l.drop i) = if f (l[i]'(by omega)) l[i + 1] = true then some 0 else (firstN f (l.drop (i + 1))).map (· + 1) := by
  rw [List.drop_eq_getElem_cons (show i < l.length by omega), List.drop_eq_getElem_cons h, firstN]
theorem firstN_end {f : Ed → Ed → Bool} {l : List Ed} {i : Nat} (h : l.length ≤ i + 1) : firstN f (l.drop i) = none := by
  have : (l.drop i).length ≤ 1 := by rw [List.length_drop]; omega
  match hd : l.drop i, this with
  | [], _ => rfl
  | [_], _ => rfl
  | _ :: _ :: _, h => simp at h
theorem firstN_sat {f : Ed → Ed → Bool} : ∀ {l : List Ed} {i : Nat}, firstN f l = some i → ∃ (h : i + 1 < l.length), f (l[i]'(by omega)) l[i + 1] = true
  | [], _, h => by cases h
  | [_], _, h => by cases h
  | x :: y :: l, i, h => by
    rw [firstN] at h
    split at h
    · rename_i hf
      injection h with h; subst h
      exact ⟨by simp, hf⟩
    · simp only [Option.map_eq_some_iff] at h
      obtain ⟨j, h, rfl⟩ := h
      obtain ⟨h1, h2⟩ := firstN_sat h
      exact ⟨by simp only [List.length_cons] at h1 ⊢; omega, by simpa using h2⟩
theorem shortS_del {l : List Ed} {i : Nat} (h : firstN cancelB l = some i) : shortS l = shortS (delTwo l i) := by
  rw [shortS]
  split
  · rename_i j hj; rw [h] at hj; injection hj with hj; rw [hj]
  · rename_i hj; rw [h] at hj; cases hj
theorem shortS_melt {l : List Ed} {i : Nat} (h0 : firstN cancelB l = none) (h : firstN meltB l = some i) : shortS l = shortS (meltAt l i) := by
  rw [shortS]
  split
  · rename_i j hj; rw [h0] at hj; cases hj
  · split
    · rename_i j hj; rw [h] at hj; injection hj with hj; rw [hj]
    · rename_i hj; rw [h] at hj; cases hj
theorem shortS_done {l : List Ed} (h0 : firstN cancelB l = none) (h : firstN meltB l = none) : shortS l = l := by
  rw [shortS]
  split
  · rename_i j hj; rw [h0] at hj; cases hj
  · split
    · rename_i j hj; rw [h] at hj; cases hj
    · rfl
theorem wt_delTwo (l : List Ed) (i : Nat) : wtEds (delTwo l i) ≤ wtEds l := by
  unfold delTwo
  rw [wtEds_app]
  have h1 := wtEds_take_drop l i
  have h2 := wtEds_take_drop (l.drop i) 2
  rw [List.drop_drop] at h2
  omega
theorem meltAt_eq {l : List Ed} {i : Nat} (h : i + 1 < l.length) : meltAt l i = l.take i ++ [{ l[i] with new := l[i + 1].new }] ++ l.drop (i + 2) := by
  unfold meltAt
  rw [List.getD_eq_getElem?_getD, List.getElem?_eq_getElem (by omega), List.getD_eq_getElem?_getD, List.getElem?_eq_getElem h]; rfl
theorem list_two {l : List Ed} {i : Nat} (h : i + 1 < l.length) : l = l.take i ++ l[i] :: l[i + 1] :: l.drop (i + 2) := by
  rw [← List.drop_eq_getElem_cons h, ← List.drop_eq_getElem_cons (show i < l.length by omega), List.take_append_drop]
theorem wt_meltAt {l : List Ed} {i : Nat} (h : i + 1 < l.length) : wtEds (meltAt l i) ≤ wtEds l := by
  rw [meltAt_eq h]
  have := congrArg wtEds (list_two h)
  rw [wtEds_app, wtEds, wtEds] at this
  rw [this, wtEds_app, wtEds_app]
  simp only [wtEds, wtEd]; omega
theorem short_len : ∀ (n : Nat) (l : List Ed), l.length ≤ n → (shortS l).length ≤ l.length ∧ wtEds (shortS l) ≤ wtEds l
  | 0, l, h => by
    have : l = [] := List.eq_nil_of_length_eq_zero (by omega)
    subst this
    rw [shortS_done rfl rfl]; exact ⟨Nat.le_refl _, Nat.le_refl _⟩
  | n + 1, l, h => by
    cases h1 : firstN cancelB l with
    | some i =>
      have := firstN_lt h1
      have hd : (delTwo l i).length + 2 = l.length := by unfold delTwo; simp only [List.length_append, List.length_take, List.length_drop]; omega
      have h2 := short_len n (delTwo l i) (by omega)
      have := wt_delTwo l i
      rw [shortS_del h1]; omega
    | none =>
      cases h2 : firstN meltB l with
      | some i =>
        have := firstN_lt h2
        have hd : (meltAt l i).length + 1 = l.length := by rw [meltAt_eq this]; simp only [List.length_append, List.length_take, List.length_drop, List.length_cons, List.length_nil]; omega
        have h3 := short_len n (meltAt l i) (by omega)
        have := wt_meltAt this
        rw [shortS_melt h1 h2]; omega
      | none => rw [shortS_done h1 h2]; exact ⟨Nat.le_refl _, Nat.le_refl _⟩
/-! #### Pages on the way -/
theorem pages_snoc : ∀ {a : List Ed} {l m : List Nd} {x : Ed}, applyS l a = .ok m → pagesL l (a ++ [x]) = pagesL l a ++ (match stepEd m x with
    | .error _ => []
    | .ok l' => [l'])
  | [], l, m, x, h => by
    injection h with h; subst h
    simp only [List.nil_append, pagesL]
    all_goals (cases stepEd l x <;> rfl)
  | y :: a, l, m, x, h => by
    rw [applyS] at h
    split at h
    · cases h
    · rename_i l' hl
      simp only [List.cons_append, pagesL, hl, pages_snoc h]
theorem pages_stop : ∀ {a b : List Ed} {l m : List Nd} {x : Ed} {e : Int}, applyS l a = .ok m → stepEd m x = .error e → pagesL l (a ++ x :: b) = pagesL l a
  | [], b, l, m, x, e, h, h2 => by
    injection h with h; subst h
    simp only [List.nil_append, pagesL, h2]
  | y :: a, b, l, m, x, e, h, h2 => by
    rw [applyS] at h
    split at h
    · cases h
    · rename_i l' hl
      simp only [List.cons_append, pagesL, hl, pages_stop h h2]
theorem pages_last : ∀ {a : List Ed} {out : List (List Nd)} {m : List Nd}, out ≠ [] → applyS (out.getLastD []) a = .ok m → (out ++ pagesL (out.getLastD []) a).getLastD [] = m
  | [], out, m, ho, h => by injection h with h; rw [pagesL, List.append_nil]; exact h
  | y :: a, out, m, ho, h => by
    rw [applyS] at h
    split at h
    · cases h
    · rename_i l' hl
      have e : (out ++ [l']).getLastD [] = l' := by simp [List.getLastD_eq_getLast?]
      have := pages_last (a := a) (out := out ++ [l']) (m := m) (by simp) (by rw [e]; exact h)
      rw [e] at this
      simp only [pagesL, hl]
      rw [← this, List.append_assoc]; rfl
theorem pages_len : ∀ (l : List Nd) (s : List Ed), (pagesL l s).length ≤ s.length
  | _, [] => Nat.le_refl _
  | l, x :: s => by
    rw [pagesL]
    split
    · exact Nat.zero_le _
    · rename_i l' _; have := pages_len l' s; simp only [List.length_cons]; omega
theorem getLastD_get {α : Type} {l : List α} (h : l ≠ []) (d : α) : l.getLastD d = l[l.length - 1]'(by have := List.length_pos_iff.2 h; omega) := by
  rw [List.getLastD_eq_getLast?, List.getLast?_eq_some_getLast h, Option.getD_some, List.getLast_eq_getElem]
end Go.Proofs.Ytmkjjopflncedaa.AXP
namespace Go.Proofs.Ytmkjjopflncedaa.AX
open Go AXP
set_option maxRecDepth 100000
theorem turnedW_holds : Holds 42 conTurnedW := conP_holds fun x => by
  have key : ∀ y : Ed, y = x → Meets cx0 42 [.agg (editL x)] [] { pre := some (fitEd y), res := .agg (editL (turnEd y)) } → Meets cx0 42 [.agg (editL x)] [] { pre := some (wtEd x ≤ wtMx), res := .agg (editL ⟨whatT x.what, x.way, x.new, x.old⟩) } := by
    intro y hy hm
    subst hy
    exact fun F I w vals hH hv hpre => hm F I w vals hH hv (fun p hp => by injection hp with hp; subst hp; exact fit_ed (hpre _ rfl))
  exact key _ (ed_eta x) (turned_holds [.agg (editL x)] [] _ rfl)
theorem sameOne_holds : Holds 72 conSameOne := conP_holds fun x y => by
  refine fun_meets0 (AllH.tok (.cons edSame_holds (by kernel_rfl) .nil)) [] (by kernel_rfl) (by kernel_rfl) fun hpre => Eq.mpr (vcSameOneF x y _) ?_
  rw [ed_eta, ed_eta]
  exact qfin rfl rfl rfl rfl
theorem cancels_holds : Holds 50 conCancels := conP_holds fun x y => by
  refine fun_meets0 (AllH.tok (.cons turnedW_holds (by kernel_rfl) (.cons sameOne_holds (by kernel_rfl) .nil))) [] (by kernel_rfl) (by kernel_rfl) fun hpre => Eq.mpr (vcCancelsF x y _) ?_
  simp only [nd_eta]
  refine ⟨hpre _ rfl, qfin rfl ?_ rfl rfl⟩
  show [AV.bool _] = [AV.bool (eqEd (turnEd x) y)]
  simp only [eql, Bool.and_true]; rfl
theorem melts_holds : Holds 52 conMelts := conP_holds fun x y => by
  refine fun_meets0 (AllH.tok (.cons eqIts_holds (by kernel_rfl) (.cons eqAts_holds (by kernel_rfl) .nil))) [] (by kernel_rfl) (by kernel_rfl) fun hpre => Eq.mpr (vcMeltsF x y _) ?_
  refine ⟨fun h1 => qfin rfl ?_ rfl rfl, fun h1 => ⟨fun h2 => qfin rfl ?_ rfl rfl, fun h2 => ⟨fun h3 => qfin rfl ?_ rfl rfl, fun h3 => ⟨fun h4 => qfin rfl ?_ rfl rfl, fun h4 => qfin rfl ?_ rfl rfl⟩⟩⟩⟩ <;>
  · show [AV.bool _] = [AV.bool (meltB x y)]
    unfold meltB
    simp only [*, Bool.true_or, Bool.or_true, Bool.false_or, Bool.or_self, Bool.false_eq_true, if_false, if_true]
theorem first_sum {B : Ed → Ed → Bool} {g bl : Nat} {n : Nat} {c : Code} {L : Loops}
    (hb : ∀ (l : List Ed) (e : Int) (i : Nat) (K : Ex → List AV → List Blk → Prop), l.length ≤ maxSl → wtEds l ≤ wtMx → i ≤ l.length → (∀ h : i + 1 < l.length, (B (l[i]'(by omega)) l[i + 1] = true → K .ret [.int .i64 i] []) ∧ (B (l[i]'(by omega)) l[i + 1] = false → K .norm [.row .one l, .fn g [], .int .i64 e, .int .i64 (i + 1 : Nat)] [])) → (l.length ≤ i + 1 → K (.exit 0) [.int .i64 e] []) → bodyA cxFirst L n bl c (lsFirst g B).keep (lsFirst g B).left K [.row .one l, .fn g [], .int .i64 e, .int .i64 i] []) :
    SumOK cxFirst L n bl c (lsFirst g B) := by
  intro vs bs K hs
  unfold lsFirst at hs
  simp only at hs
  split at hs
  case h_2 => exact hs.elim
  rename_i l f e i
  obtain ⟨⟨rfl, rfl, hl, hw⟩, h⟩ := hs
  refine sum_for (fun i => firstN B l = (firstN B (l.drop i)).map (· + i)) (fun i => [.row .one l, .fn f [], .int .i64 e, .int .i64 i]) (fun _ => []) (l.length - 1) (fun i hi hp R hR => ?_) (fun hp R => ?_) ?_
  · refine hb l e i _ hl hw (by omega) (fun h1 => ⟨fun h2 => ?_, fun h2 => hR ?_⟩) (fun h1 => by omega)
    · rw [firstN_at h1, if_pos h2] at hp
      have := h.yes (by unfold hasF; rw [hp]; rfl)
      have e1 : firstI B l = i := by unfold firstI; rw [hp]; simp
      rw [e1] at this
      exact this
    · rw [firstN_at h1, if_neg (by rw [h2]; decide)] at hp
      rw [hp, Option.map_map]
      congr 1; funext k; simp only [Function.comp]; omega
  · refine hb l e (l.length - 1) _ hl hw (by omega) (fun h1 => by omega) (fun h1 => ?_)
    rw [firstN_end h1] at hp
    exact h.no (by unfold hasF; rw [hp]; rfl)
  · rw [List.drop_zero]; cases firstN B l <;> rfl
theorem firstC_body (l : List Ed) (e : Int) (i : Nat) (K : Ex → List AV → List Blk → Prop) (hl : l.length ≤ maxSl) (hw : wtEds l ≤ wtMx) (hi : i ≤ l.length) (h1 : ∀ h : i + 1 < l.length, (cancelB (l[i]'(by omega)) l[i + 1] = true → K .ret [.int .i64 i] []) ∧ (cancelB (l[i]'(by omega)) l[i + 1] = false → K .norm [.row .one l, .fn 50 [], .int .i64 e, .int .i64 (i + 1 : Nat)] [])) (h2 : l.length ≤ i + 1 → K (.exit 0) [.int .i64 e] []) :
    bodyA cxFirst (LL Try.f49 [lsFirstC]) Try.f49.ntmps (loopAt Try.f49 0).1 (loopAt Try.f49 0).2 lsFirstC.keep lsFirstC.left K [.row .one l, .fn 50 [], .int .i64 e, .int .i64 i] [] := by
  have hwr : IntKind.i64.wrap ((i : Int) + 1) = ((i + 1 : Nat) : Int) := by unfold maxSl at hl; rw [wrap_id'] <;> omega
  refine Eq.mpr (vcFirstCB l e i _) ⟨fun _ => ?_⟩
  rw [hwr]
  refine ⟨fun h => ?_, fun h => h2 (by simp at h; omega)⟩
  have h : i + 1 < l.length := by simp at h; omega
  rw [rd_one (show i < l.length by omega), rd_one h, ed_eta, ed_eta]
  exact ⟨⟨by omega, by omega⟩, ⟨⟨by omega, by omega⟩, ⟨Nat.le_trans (wtEds_mem (List.getElem_mem _)) hw, ⟨fun h3 => (h1 h).1 h3, fun h3 => (h1 h).2 h3⟩⟩⟩⟩
theorem firstM_body (l : List Ed) (e : Int) (i : Nat) (K : Ex → List AV → List Blk → Prop) (hl : l.length ≤ maxSl) (hw : wtEds l ≤ wtMx) (hi : i ≤ l.length) (h1 : ∀ h : i + 1 < l.length, (meltB (l[i]'(by omega)) l[i + 1] = true → K .ret [.int .i64 i] []) ∧ (meltB (l[i]'(by omega)) l[i + 1] = false → K .norm [.row .one l, .fn 52 [], .int .i64 e, .int .i64 (i + 1 : Nat)] [])) (h2 : l.length ≤ i + 1 → K (.exit 0) [.int .i64 e] []) :
    bodyA cxFirst (LL Try.f49 [lsFirstM]) Try.f49.ntmps (loopAt Try.f49 0).1 (loopAt Try.f49 0).2 lsFirstM.keep lsFirstM.left K [.row .one l, .fn 52 [], .int .i64 e, .int .i64 i] [] := by
  have hwr : IntKind.i64.wrap ((i : Int) + 1) = ((i + 1 : Nat) : Int) := by unfold maxSl at hl; rw [wrap_id'] <;> omega
  refine Eq.mpr (vcFirstMB l e i _) ⟨fun _ => ?_⟩
  rw [hwr]
  refine ⟨fun h => ?_, fun h => h2 (by simp at h; omega)⟩
  have h : i + 1 < l.length := by simp at h; omega
  rw [rd_one (show i < l.length by omega), rd_one h, ed_eta, ed_eta]
  exact ⟨⟨by omega, by omega⟩, ⟨⟨by omega, by omega⟩, ⟨fun h3 => (h1 h).1 h3, fun h3 => (h1 h).2 h3⟩⟩⟩
theorem firstI_neg {B : Ed → Ed → Bool} {l : List Ed} (h : hasF B l = false) : firstI B l = -1 := by
  unfold hasF at h
  unfold firstI
  cases e : firstN B l with
  | none => rfl
  | some i => rw [e] at h; cases h
theorem tokFirst : TOK cxFirst := AllH.tok (.cons cancels_holds (by kernel_rfl) (.cons melts_holds (by kernel_rfl) .nil))
theorem firstC_holds : Holds 49 conFirstC := conP_holds fun l _ => by
  refine fun_meets1 tokFirst [] lsFirstC (by kernel_rfl) (by kernel_rfl) (first_sum firstC_body) fun hpre => Eq.mpr (vcFirstCF l _) ?_
  have hw : wtEds l ≤ wtMx := hpre _ rfl
  have hl : l.length ≤ maxSl := by have := len_eds hw; omega
  refine ⟨⟨rfl, rfl, hl, hw⟩, ⟨fun h => qfin rfl rfl rfl rfl, fun h => qfin rfl ?_ rfl rfl⟩⟩
  show _ = [AV.int .i64 (firstI cancelB l)]
  rw [firstI_neg h]
theorem firstM_holds : Holds 49 conFirstM := conP_holds fun l _ => by
  refine fun_meets1 tokFirst [] lsFirstM (by kernel_rfl) (by kernel_rfl) (first_sum firstM_body) fun hpre => Eq.mpr (vcFirstMF l _) ?_
  have hw : wtEds l ≤ wtMx := hpre _ rfl
  have hl : l.length ≤ maxSl := by have := len_eds hw; omega
  refine ⟨⟨rfl, rfl, hl, hw⟩, ⟨fun h => qfin rfl rfl rfl rfl, fun h => qfin rfl ?_ rfl rfl⟩⟩
  show _ = [AV.int .i64 (firstI meltB l)]
  rw [firstI_neg h]
theorem first_holds : Holds 49 conFirst := or_holds firstC_holds firstM_holds
theorem tokAbout : TOK cxAbout := AllH.tok (.cons ones_holds (by kernel_rfl) (.cons revOne_holds (by kernel_rfl) (.cons turnedW_holds (by kernel_rfl) (.cons edits_holds (by kernel_rfl) .nil))))
theorem about_sum : SumOK cxAbout (LL Try.f21 [lsAbout]) Try.f21.ntmps (loopAt Try.f21 0).1 (loopAt Try.f21 0).2 lsAbout := by
  intro vs bs K hs
  unfold lsAbout at hs
  simp only at hs
  split at hs
  case h_2 => exact hs.elim
  rename_i m i l
  obtain ⟨⟨rfl, rfl, hl, hw⟩, h⟩ := hs
  refine sum_for (fun _ => True) (fun i => [.own 0 0, .int .i64 l.length, .int .i64 i]) (fun i => [.rowb 0 .one ((l.take i).map turnEd ++ l.drop i)]) l.length (fun i hi _ R hR => ?_) (fun _ R => ?_) trivial
  · have hlen : ((l.take i).map turnEd ++ l.drop i).length = l.length := by simp only [List.length_append, List.length_map, List.length_take, List.length_drop]; omega
    have hget : ((l.take i).map turnEd ++ l.drop i)[i]'(by omega) = l[i] := by
      rw [List.getElem_append_right (by simp only [List.length_map, List.length_take]; omega)]
      simp only [List.length_map, List.length_take, List.getElem_drop]
      congr 1; omega
    refine Eq.mpr (vcAboutB _ l.length i _) ⟨fun _ => ?_, fun h => lt_of h hi⟩
    rw [rd_one (show i < ((l.take i).map turnEd ++ l.drop i).length by omega), hget]
    simp only [nd_eta, hlen]
    refine ⟨⟨by omega, by omega⟩, ⟨Nat.le_trans (wtEds_mem (List.getElem_mem hi)) hw, ⟨⟨by omega, by omega⟩, ?_⟩⟩⟩
    rw [wrap_succ hi hl, Int.toNat_natCast]
    have e : ((l.take i).map turnEd ++ l.drop i).set i (turnEd l[i]) = (l.take (i + 1)).map turnEd ++ l.drop (i + 1) := by
      rw [List.set_append_right _ _ (by simp only [List.length_map, List.length_take]; omega), List.drop_eq_getElem_cons hi]
      simp only [List.length_map, List.length_take, show i - min i l.length = 0 by omega, List.set_cons_zero]
      rw [← take_snoc hi, List.map_append, List.append_assoc]; rfl
    have := hR trivial
    rw [← e] at this
    exact this
  · refine Eq.mpr (vcAboutB _ l.length l.length _) ⟨fun h => not_lt_self h, fun _ => ?_⟩
    rw [List.take_length, List.drop_length, List.append_nil]; exact h
def conAbout : Con := conP [.row .edit] fun (s : List Ed) => { pre := some (wtEds s ≤ wtMx), res := .own 0 0, extra := [.rowb 0 .edit (aboutS s)] }
theorem about_holds : Holds 21 conAbout := conP_holds fun s => by
  refine fun_meets1 tokAbout [] lsAbout (by kernel_rfl) (by kernel_rfl) about_sum fun hpre => Eq.mpr (vcAboutF s _) ?_
  have hw : wtEds s ≤ wtMx := hpre _ rfl
  exact ⟨⟨len_eds hw, fit_eds hw⟩, ⟨fun hm => ⟨⟨rfl, rfl, hm, by rw [wtEds_rev]; exact hw⟩, ⟨by rw [List.length_map, List.length_reverse]; exact len_eds hw, qfin rfl rfl rfl rfl⟩⟩⟩⟩
theorem tokShort : TOK cxShort := AllH.tok (.cons ones_holds (by kernel_rfl) (.cons first_holds (by kernel_rfl) (.cons delOne_holds (by kernel_rfl) (.cons edits_holds (by kernel_rfl) .nil))))
theorem short_sum : SumOK cxShort (LL Try.f25 [lsShort]) Try.f25.ntmps (loopAt Try.f25 0).1 (loopAt Try.f25 0).2 lsShort := by
  intro vs bs K hs
  unfold lsShort at hs
  simp only at hs
  split at hs
  case h_2 => exact hs.elim
  rename_i l
  obtain ⟨hw, h⟩ := hs
  suffices H : ∀ (n : Nat) (l : List Ed), l.length ≤ n → wtEds l ≤ wtMx → K .ret [.own 0 0] [.rowb 0 .edit (shortS l)] → roundsA cxShort (LL Try.f25 [lsShort]) Try.f25.ntmps (loopAt Try.f25 0).1 (loopAt Try.f25 0).2 lsShort.keep lsShort.left K (n + 1) [.own 0 0] [.rowb 0 .one l] from ⟨_, H l.length l (Nat.le_refl _) hw h⟩
  intro n
  induction n with
  | zero =>
    intro l hl hw h
    have : l = [] := List.eq_nil_of_length_eq_zero (by omega)
    subst this
    rw [roundsA]
    exact Eq.mpr (vcShortB [] _) ⟨hw, ⟨fun h1 => absurd h1 (by decide), fun _ => ⟨hw, ⟨fun _ => ⟨len_eds hw, by rw [shortS_done rfl rfl] at h; exact h⟩, fun h1 => absurd h1 (by decide)⟩⟩⟩⟩
  | succ n ih =>
    intro l hl hw h
    have hmx : l.length ≤ maxSl := by have := len_eds hw; omega
    rw [roundsA]
    refine Eq.mpr (vcShortB l _) ⟨hw, ⟨fun h1 => ?_, fun h1 => ⟨hw, ⟨fun h2 => ?_, fun h2 => ?_⟩⟩⟩⟩
    · cases e : firstN cancelB l with
      | none => rw [firstI_neg (by unfold hasF; rw [e]; rfl)] at h1; exact absurd h1 (by decide)
      | some i =>
        have hlt := firstN_lt e
        have e1 : firstI cancelB l = i := by unfold firstI; rw [e]
        have hwr : IntKind.i64.wrap ((i : Int) + 2) = ((i + 2 : Nat) : Int) := by unfold maxSl at hmx; rw [wrap_id'] <;> omega
        rw [e1, hwr, Int.toNat_natCast, Int.toNat_natCast]
        refine ⟨⟨by omega, by omega, by omega⟩, ?_⟩
        refine ih (delTwo l i) ?_ (Nat.le_trans (wt_delTwo l i) hw) (by rw [shortS_del e] at h; exact h)
        unfold delTwo; simp only [List.length_append, List.length_take, List.length_drop]; omega
    · have hc : firstN cancelB l = none := by
        cases e : firstN cancelB l with
        | none => rfl
        | some i =>
          have e1 : firstI cancelB l = i := by unfold firstI; rw [e]
          rw [e1] at h1; simp at h1
      have hm : firstN meltB l = none := by
        cases e : firstN meltB l with
        | none => rfl
        | some i =>
          have e1 : firstI meltB l = i := by unfold firstI; rw [e]
          rw [e1] at h2; simp at h2; omega
      rw [shortS_done hc hm] at h
      exact ⟨len_eds hw, h⟩
    · have hc : firstN cancelB l = none := by
        cases e : firstN cancelB l with
        | none => rfl
        | some i =>
          have e1 : firstI cancelB l = i := by unfold firstI; rw [e]
          rw [e1] at h1; simp at h1
      cases e : firstN meltB l with
      | none => rw [firstI_neg (by unfold hasF; rw [e]; rfl)] at h2; exact absurd h2 (by decide)
      | some i =>
        have hlt := firstN_lt e
        have e1 : firstI meltB l = i := by unfold firstI; rw [e]
        have hwr1 : IntKind.i64.wrap ((i : Int) + 1) = ((i + 1 : Nat) : Int) := by unfold maxSl at hmx; rw [wrap_id'] <;> omega
        have hwr2 : IntKind.i64.wrap ((i : Int) + 2) = ((i + 2 : Nat) : Int) := by unfold maxSl at hmx; rw [wrap_id'] <;> omega
        rw [e1, hwr1, hwr2]
        simp only [Int.toNat_natCast]
        rw [rd_one (show i < l.length by omega), rd_one hlt]
        simp only [nd_eta, List.length_set]
        refine ⟨⟨by omega, by omega⟩, ⟨⟨by omega, by omega⟩, ⟨⟨by omega, by omega, by omega⟩, ?_⟩⟩⟩
        have em : (l.set i { l[i] with new := l[i + 1].new }).take (i + 1) ++ (l.set i { l[i] with new := l[i + 1].new }).drop (i + 2) = meltAt l i := by
          rw [meltAt_eq hlt, List.take_succ_eq_append_getElem (by rw [List.length_set]; omega), List.getElem_set_self, List.take_set_of_le (Nat.le_refl _), List.drop_set_of_lt (by omega)]
        have := ih (meltAt l i) (by rw [meltAt_eq hlt]; simp only [List.length_append, List.length_take, List.length_drop, List.length_cons, List.length_nil]; omega) (Nat.le_trans (wt_meltAt hlt) hw) (by rw [shortS_melt hc e] at h; exact h)
        rw [← em] at this
        exact this
def conShort : Con := conP [.row .edit] fun (s : List Ed) => { pre := some (wtEds s ≤ wtMx), res := .own 0 0, extra := [.rowb 0 .edit (shortS s)] }
theorem short_holds : Holds 25 conShort := conP_holds fun s => by
  refine fun_meets1 tokShort [] lsShort (by kernel_rfl) (by kernel_rfl) short_sum fun hpre => Eq.mpr (vcShortF s _) ?_
  have hw : wtEds s ≤ wtMx := hpre _ rfl
  exact ⟨⟨len_eds hw, fit_eds hw⟩, ⟨hw, qfin rfl rfl rfl rfl⟩⟩
theorem tokSteps : TOK cxSteps := AllH.tok (.cons copy_holds (by kernel_rfl) (.cons apply_holds (by kernel_rfl) .nil))
theorem rd_nds {a : List (List Nd)} {i : Nat} (h : i < a.length) : rd .nodes a (i : Int) = a[i] := rd_get (t := .nodes) h
theorem apply_one (l : List Nd) (x : Ed) : applyS l [x] = stepEd l x := by
  simp only [applyS]; cases stepEd l x <;> rfl
theorem steps_sum : SumOK cxSteps (LL Try.f16 [lsSteps]) Try.f16.ntmps (loopAt Try.f16 0).1 (loopAt Try.f16 0).2 lsSteps := by
  intro vs bs K hs
  unfold lsSteps at hs
  simp only at hs
  split at hs
  case h_2 => exact hs.elim
  rename_i e s m i out
  obtain ⟨⟨rfl, rfl, hl, ho, hw, hsz⟩, h⟩ := hs
  obtain ⟨l, hlast⟩ : ∃ l, l = out.getLastD [] := ⟨_, rfl⟩
  rw [← hlast] at hw h
  have hz : out ++ pagesL l (s.take 0) = out := by rw [List.take_zero, pagesL, List.append_nil]
  suffices H : ∃ m, roundsA cxSteps (LL Try.f16 [lsSteps]) Try.f16.ntmps (loopAt Try.f16 0).1 (loopAt Try.f16 0).2 lsSteps.keep lsSteps.left K m [.nil, .int .i64 e, .own 0 0, .row .edit s, .int .i64 s.length, .int .i64 (0 : Nat)] [.rowb 0 .nodes (out ++ pagesL l (s.take 0))] by
    rw [hz] at H; exact H
  refine sum_for (fun i => applyOk l (s.take i) = true) (fun i => [.nil, .int .i64 e, .own 0 0, .row .edit s, .int .i64 s.length, .int .i64 i]) (fun i => [.rowb 0 .nodes (out ++ pagesL l (s.take i))]) s.length (fun i hi hp R hR => ?_) (fun hp R => ?_) rfl
  · have hg := applyOk_some hp
    have hwt : wtEds s = wtEds (s.take i) + (wtEd s[i] + wtEds (s.drop (i + 1))) := by
      have := wtEds_app (s.take i) (s[i] :: s.drop (i + 1))
      rw [show wtEds (s[i] :: s.drop (i + 1)) = wtEd s[i] + wtEds (s.drop (i + 1)) from rfl, ← List.drop_eq_getElem_cons hi, List.take_append_drop] at this; exact this
    have hwc := wt_apply hg
    obtain ⟨O, hO⟩ : ∃ O, O = out ++ pagesL l (s.take i) := ⟨_, rfl⟩
    have hpl := pages_len l (s.take i)
    have htl : (s.take i).length = i := by rw [List.length_take]; omega
    have hOl : O.length ≤ out.length + i := by rw [hO, List.length_append]; omega
    have hOne : O ≠ [] := by rw [hO]; simp [ho]
    have hOp := List.length_pos_iff.2 hOne
    have hwr : IntKind.i64.wrap ((O.length : Int) - 1) = ((O.length - 1 : Nat) : Int) := by unfold maxSl at hsz; rw [wrap_id'] <;> omega
    have hrd : rd .nodes O ((O.length - 1 : Nat) : Int) = applyL l (s.take i) := by
      rw [rd_nds (by omega), ← getLastD_get hOne [], hO, hlast]
      exact pages_last ho (by rw [← hlast]; exact hg)
    rw [← hO]
    refine Eq.mpr (vcStepsB O s e s.length i _) ⟨fun _ => ⟨⟨by omega, by omega⟩, ?_⟩, fun h => lt_of h hi⟩
    rw [hwr, hrd, rd_ed hi, ed_eta]
    have hnext : applyS l (s.take (i + 1)) = stepEd (applyL l (s.take i)) s[i] := by
      rw [← take_snoc hi, applyS_app, hg]; exact apply_one _ _
    have e1 : applyE (applyL l (s.take i)) [s[i]] = stepE (applyL l (s.take i)) s[i] := by unfold applyE stepE; rw [apply_one]
    have e2 : applyL (applyL l (s.take i)) [s[i]] = stepL (applyL l (s.take i)) s[i] := by
      show okX (applyS (applyL l (s.take i)) [s[i]]) = _; rw [apply_one]; rfl
    rw [e1, e2]
    refine ⟨⟨by omega, by omega⟩, ⟨by simp only [wtEds]; omega, ⟨fun _ => ⟨fun h1 => ?_, fun h1 => ⟨?_, ?_⟩⟩⟩⟩⟩
    · have h1 : stepE (applyL l (s.take i)) s[i] ≠ 0 := by simpa using h1
      rcases stepE_cases (applyL l (s.take i)) s[i] with ⟨z, _⟩ | ⟨_, z1, z2⟩
      · exact (h1 z).elim
      rw [z1] at hnext
      have hall : applyS l s = .error (stepE (applyL l (s.take i)) s[i]) := by
        have hj := applyS_app (a := s.take (i + 1)) (b := s.drop (i + 1)) (l := l)
        rw [List.take_append_drop, hnext] at hj
        exact hj
      have hpg : pagesL l s = pagesL l (s.take i) := by
        have := pages_stop (b := s.drop (i + 1)) hg z1
        rw [← List.drop_eq_getElem_cons hi, List.take_append_drop] at this
        exact this
      have := h.no (by unfold applyOk; rw [hall]; rfl)
      rw [show applyE l s = stepE (applyL l (s.take i)) s[i] by unfold applyE; rw [hall]; rfl, hpg, ← hO] at this
      exact this
    · simp only [List.length_cons, List.length_nil]; omega
    · have h1 : stepE (applyL l (s.take i)) s[i] = 0 := by simpa using h1
      rcases stepE_cases (applyL l (s.take i)) s[i] with ⟨_, z⟩ | ⟨z, _⟩
      · have hpg : pagesL l (s.take (i + 1)) = pagesL l (s.take i) ++ [stepL (applyL l (s.take i)) s[i]] := by
          rw [← take_snoc hi, pages_snoc hg, z]
        rw [z] at hnext
        rw [wrap_succ hi hl]
        have := hR (by unfold applyOk; rw [hnext]; rfl)
        rw [hpg, ← List.append_assoc, ← hO] at this
        exact this
      · exact (z h1).elim
  · refine Eq.mpr (vcStepsB _ s e s.length s.length _) ⟨fun h => not_lt_self h, fun _ => ?_⟩
    rw [List.take_length] at hp ⊢
    exact h.yes hp
def conSteps : Con := conP [.row .node, .row .edit] fun (l : List Nd) (s : List Ed) => { pre := some (2 * (wtNds l + wtEds s) ≤ wtMx), res := .tup [.own 0 0, .int .i64 (applyE l s)], extra := [.rowb 0 .nodes (stepsR l s)] }
theorem steps_holds : Holds 16 conSteps := conP_holds fun l s => by
  refine fun_meets1 tokSteps [.own .nodes] lsSteps (by kernel_rfl) (by kernel_rfl) steps_sum fun hpre => Eq.mpr (vcStepsF l s _) ?_
  have hw : 2 * (wtNds l + wtEds s) ≤ wtMx := hpre _ rfl
  have hsl := wtEds_len s
  refine ⟨fit_of_wt _ (by omega), ⟨fun hm => ⟨⟨rfl, rfl, hm, by simp, hw, ?_⟩, ⟨fun h => qfin rfl ?_ rfl ?_, fun h => qfin rfl rfl rfl ?_⟩⟩⟩⟩
  · unfold wtMx at hw; unfold maxSl; simp only [List.length_cons, List.length_nil]; omega
  · show _ = [AV.own 0 0, AV.int .i64 (applyE l s)]
    unfold applyE; rw [applyOk_some h]; rfl
  · show _ = [Blk.rowb 0 .nodes (stepsR l s)]
    unfold stepsR; rw [if_pos h]; rfl
  · show _ = [Blk.rowb 0 .nodes (stepsR l s)]
    unfold stepsR; rw [if_neg (by rw [h]; decide)]
end Go.Proofs.Ytmkjjopflncedaa.AX
end
section
namespace Go.Proofs.Ytmkjjopflncedaa.AXP
open Go Go.Proofs.Ytmkjjopflncedaa.AX
def attBad1 (a : At) : Bool := decide ((a.1.size : Int) > 100) || decide ((a.2.size : Int) > 2000)
def attBad (l : List At) : Bool := l.any attBad1
def topOf (d : Int) (len : Nat) (n : Int) (r : Bool × Int) : Bool × Int := if (decide (d > 60) || decide ((len : Int) > 500)) = true then (true, n) else if r.1 = true then (true, r.2) else (decide (r.2 < 0), r.2)
mutual
def lgNd (d : Int) : Nd → Int → Bool × Int
  | ⟨_, _, nm, a, t, c⟩, n => if (decide (n - 1 < 0) || decide ((a.length : Int) > 40) || decide ((t.size : Int) > 5000) || decide ((nm.size : Int) > 100)) = true then (true, n - 1) else if attBad a = true then (true, n - 1 - (t.size : Int).tdiv 16 - a.length) else topOf (d + 1) c.length (n - 1 - (t.size : Int).tdiv 16 - a.length) (lgLoop (d + 1) c (n - 1 - (t.size : Int).tdiv 16 - a.length))
def lgLoop (d : Int) : List Nd → Int → Bool × Int
  | [], n => (false, n)
  | x :: l, n => if (lgNd d x n).1 = true then (true, (lgNd d x n).2) else lgLoop d l (lgNd d x n).2
end
def lgNds (d : Int) (l : List Nd) (n : Int) : Bool × Int := topOf d l.length n (lgLoop d l n)
def lgB (d : Int) (l : List Nd) (n : Int) : Bool := (lgNds d l n).1
def lgN (d : Int) (l : List Nd) (n : Int) : Int := (lgNds d l n).2
def lpB (d : Int) (l : List Nd) (n : Int) : Bool := (lgLoop d l n).1
def lpN (d : Int) (l : List Nd) (n : Int) : Int := (lgLoop d l n).2
/-- Is a script too long? -/
def longL : List Ed → Int → Bool × Int
  | [], n => (false, n)
  | x :: s, n => if (x.way.length : Int) > 60 then (true, n) else if lgB 1 [x.old, x.new] n = true then (true, lgN 1 [x.old, x.new] n) else longL s (lgN 1 [x.old, x.new] n)
def loB (s : List Ed) (n : Int) : Bool := (longL s n).1
def loN (s : List Ed) (n : Int) : Int := (longL s n).2
def largeB (l : List Nd) : Bool := lgB 1 l 250
def longB (m : Int) (s : List Ed) : Bool := decide ((s.length : Int) > m) || loB s 300
end Go.Proofs.Ytmkjjopflncedaa.AXP
namespace Go.Proofs.Ytmkjjopflncedaa.AX
open Go AXP
noncomputable def conLargeLt (k : Nat) : Con := fun args hp => match args, hp with
  | [x, .ptr 0 0, .int .i64 d], [.box [.int .i64 n]] => (rowOf .node x).bind fun l => some { pre := some (szNds l < k ∧ 0 ≤ d ∧ d ≤ 61 ∧ -354 ≤ n ∧ n ≤ 1000), res := .bool (lgB d l n), hp := [.box [.int .i64 (lgN d l n)]] }
  | _, _ => none
noncomputable def cxLarge (k : Nat) : Cx := cxT (tabLook [(35, conLargeLt k)])
noncomputable def lsLarge (k : Nat) : LS where
  keep := [(1, .as), (2, .as), (18, .as), (19, .as), (20, .as)]
  left := [(1, .as), (6, .as)]
  sum := fun vs bs K => match vs, bs with
    | [.ptr 0 0, .int .i64 d, .row .node l, .int .i64 m, .int .i64 i], [.box [.int .i64 n]] => Rq (m = l.length ∧ i = 0 ∧ l.length ≤ maxSl ∧ szNds l < k + 1 ∧ 0 ≤ d ∧ d ≤ 60 ∧ -354 ≤ n ∧ n ≤ 1000)
      (Br (lpB d l n) (K .ret [.ptr 0 0, .bool true] [.box [.int .i64 (lpN d l n)]]) (K (.exit 0) [.ptr 0 0, .any] [.box [.int .i64 (lpN d l n)]]))
    | _, _ => False
def lsLarge2 : LS where
  keep := [(1, .as), (2, .as), (8, .as), (18, .as), (19, .as), (20, .as), (72, .as), (73, .as), (74, .as)]
  left := [(1, .as), (2, .as), (8, .as), (18, .as), (19, .as), (20, .as), (6, .as)]
  sum := fun vs bs K => match vs, bs with
    | [.ptr 0 0, .int .i64 d, .ptr 1 0, .row .node l, .int .i64 m, .int .i64 i, .row .attr a, .int .i64 ma, .int .i64 j], [.box [.int .i64 n], .box [.int .i64 b0, .int .i64 b1, .str b2, .row .attr b3, .str b4, .row .node b5]] => Rq (ma = a.length ∧ j = 0 ∧ a.length ≤ maxSl)
      (Br (attBad a) (K .ret [.ptr 0 0, .int .i64 d, .ptr 1 0, .row .node l, .int .i64 m, .int .i64 i, .bool true] [.box [.int .i64 n], .box [.int .i64 b0, .int .i64 b1, .str b2, .row .attr b3, .str b4, .row .node b5]]) (K (.exit 2) [.ptr 0 0, .int .i64 d, .ptr 1 0, .row .node l, .int .i64 m, .int .i64 i, .any] [.box [.int .i64 n], .box [.int .i64 b0, .int .i64 b1, .str b2, .row .attr b3, .str b4, .row .node b5]]))
    | _, _ => False
def conLarge : Con := fun args hp => match args, hp with
  | [x, .ptr 0 0, .int .i64 d], [.box [.int .i64 n]] => (rowOf .node x).bind fun l => some { pre := some (0 ≤ d ∧ d ≤ 61 ∧ -354 ≤ n ∧ n ≤ 1000), res := .bool (lgB d l n), hp := [.box [.int .i64 (lgN d l n)]] }
  | _, _ => none
noncomputable def cxLg : Cx := cxT (tabLook [(35, conLarge)])
def lsLong : LS where
  keep := [(3, .as), (11, .as), (12, .as), (13, .as)]
  left := [(3, .as), (2, .as)]
  sum := fun vs bs K => match vs, bs with
    | [.ptr 0 0, .row .edit s, .int .i64 m, .int .i64 i], [.box [.int .i64 n]] => Rq (m = s.length ∧ i = 0 ∧ s.length ≤ maxSl ∧ -354 ≤ n ∧ n ≤ 1000)
      (Br (loB s n) (K .ret [.ptr 0 0, .bool true] [.box [.int .i64 (loN s n)]]) (K (.exit 0) [.ptr 0 0, .any] [.box [.int .i64 (loN s n)]]))
    | _, _ => False
end Go.Proofs.Ytmkjjopflncedaa.AX
end
section
namespace Go.Proofs.Ytmkjjopflncedaa.AX
open Go AXP
set_option maxRecDepth 100000
theorem vcLargeB2 (k : Nat) (d : Int) (l : List Nd) (m i : Int) (a : List At) (ma j n b0 b1 : Int) (b2 : ByteArray) (b3 : List At) (b4 : ByteArray) (b5 : List Nd) (K : Ex → List AV → List Blk → Prop) : (bodyA (cxLarge k) (LL Try.f35 [lsLarge k, lsLarge2]) Try.f35.ntmps (loopAt Try.f35 1).1 (loopAt Try.f35 1).2 lsLarge2.keep lsLarge2.left K [.ptr 0 0, .int .i64 d, .ptr 1 0, .row .node l, .int .i64 m, .int .i64 i, .row .attr a, .int .i64 ma, .int .i64 j] [.box [.int .i64 n], .box [.int .i64 b0, .int .i64 b1, .str b2, .row .attr b3, .str b4, .row .node b5]]) = (
Br (decide (j < ma))
  (Rq ((0 : Int) ≤ j ∧ j < (↑a.length : Int))
    (Br (decide ((↑(rd Ty.attr a j).1.size : Int) > (100 : Int)))
      (Gv ((rd Ty.attr a j).1.size ≤ maxSl)
        (K Ex.ret
          [AV.ptr (0 : Nat) (0 : Nat), AV.int IntKind.i64 d, AV.ptr ((0 : Nat) + (1 : Nat)) (0 : Nat), AV.row Ty.node l,
            AV.int IntKind.i64 m, AV.int IntKind.i64 i, AV.bool true]
          [Blk.box [AV.int IntKind.i64 n],
            Blk.box
              [AV.int IntKind.i64 b0, AV.int IntKind.i64 b1, AV.str b2, AV.row Ty.attr b3, AV.str b4,
                AV.row Ty.node b5]]))
      (Gv ((rd Ty.attr a j).1.size ≤ maxSl)
        (Gv ((rd Ty.attr a j).2.size ≤ maxSl)
          (Br (decide ((↑(rd Ty.attr a j).2.size : Int) > (2000 : Int)))
            (K Ex.ret
              [AV.ptr (0 : Nat) (0 : Nat), AV.int IntKind.i64 d, AV.ptr ((0 : Nat) + (1 : Nat)) (0 : Nat),
                AV.row Ty.node l, AV.int IntKind.i64 m, AV.int IntKind.i64 i, AV.bool true]
              [Blk.box [AV.int IntKind.i64 n],
                Blk.box
                  [AV.int IntKind.i64 b0, AV.int IntKind.i64 b1, AV.str b2, AV.row Ty.attr b3, AV.str b4,
                    AV.row Ty.node b5]])
            (K Ex.norm
              [AV.ptr (0 : Nat) (0 : Nat), AV.int IntKind.i64 d, AV.ptr ((0 : Nat) + (1 : Nat)) (0 : Nat),
                AV.row Ty.node l, AV.int IntKind.i64 m, AV.int IntKind.i64 i, AV.row Ty.attr a, AV.int IntKind.i64 ma,
                AV.int IntKind.i64 (IntKind.i64.wrap (j + (1 : Int)))]
              [Blk.box [AV.int IntKind.i64 n],
                Blk.box
                  [AV.int IntKind.i64 b0, AV.int IntKind.i64 b1, AV.str b2, AV.row Ty.attr b3, AV.str b4,
                    AV.row Ty.node b5]]))))))
  (K (Ex.exit (2 : Nat))
    [AV.ptr (0 : Nat) (0 : Nat), AV.int IntKind.i64 d, AV.ptr ((0 : Nat) + (1 : Nat)) (0 : Nat), AV.row Ty.node l,
      AV.int IntKind.i64 m, AV.int IntKind.i64 i, AV.any]
    [Blk.box [AV.int IntKind.i64 n],
      Blk.box
        [AV.int IntKind.i64 b0, AV.int IntKind.i64 b1, AV.str b2, AV.row Ty.attr b3, AV.str b4, AV.row Ty.node b5]])) := by kernel_rfl
theorem vcLargeB (k : Nat) (d : Int) (l : List Nd) (m i n : Int) (K : Ex → List AV → List Blk → Prop) : (bodyA (cxLarge k) (LL Try.f35 [lsLarge k, lsLarge2]) Try.f35.ntmps (loopAt Try.f35 0).1 (loopAt Try.f35 0).2 (lsLarge k).keep (lsLarge k).left K [.ptr 0 0, .int .i64 d, .row .node l, .int .i64 m, .int .i64 i] [.box [.int .i64 n]]) = (
Br (decide (i < m))
  (Rq ((0 : Int) ≤ i ∧ i < (↑l.length : Int))
    (Br (decide (IntKind.i64.wrap (n - (1 : Int)) < (0 : Int)))
      (K Ex.ret [AV.ptr (0 : Nat) (0 : Nat), AV.bool true]
        [Blk.box [AV.int IntKind.i64 (IntKind.i64.wrap (n - (1 : Int)))]])
      (Br (decide ((↑(rd Ty.node l i).4.length : Int) > (40 : Int)))
        (Gv ((rd Ty.node l i).4.length ≤ maxSl)
          (K Ex.ret [AV.ptr (0 : Nat) (0 : Nat), AV.bool true]
            [Blk.box [AV.int IntKind.i64 (IntKind.i64.wrap (n - (1 : Int)))]]))
        (Br (decide ((↑(rd Ty.node l i).5.size : Int) > (5000 : Int)))
          (Gv ((rd Ty.node l i).4.length ≤ maxSl)
            (Gv ((rd Ty.node l i).5.size ≤ maxSl)
              (K Ex.ret [AV.ptr (0 : Nat) (0 : Nat), AV.bool true]
                [Blk.box [AV.int IntKind.i64 (IntKind.i64.wrap (n - (1 : Int)))]])))
          (Gv ((rd Ty.node l i).4.length ≤ maxSl)
            (Gv ((rd Ty.node l i).5.size ≤ maxSl)
              (Gv ((rd Ty.node l i).3.size ≤ maxSl)
                (Br (decide ((↑(rd Ty.node l i).3.size : Int) > (100 : Int)))
                  (K Ex.ret [AV.ptr (0 : Nat) (0 : Nat), AV.bool true]
                    [Blk.box [AV.int IntKind.i64 (IntKind.i64.wrap (n - (1 : Int)))]])
                  (Rq ((16 : Int) ≠ (0 : Int))
                    (Gv ((rd Ty.node l i).5.size ≤ maxSl)
                      (Gv ((rd Ty.node l i).4.length ≤ maxSl)
                        (Gv ((rd Ty.node l i).4.length ≤ maxSl)
                          (Rq
                            ((↑(rd Ty.node l i).4.length : Int) = (↑(rd Ty.node l i).4.length : Int) ∧
                              (0 : Int) = (0 : Int) ∧ (rd Ty.node l i).4.length ≤ maxSl)
                            (Br (attBad (rd Ty.node l i).4)
                              (K Ex.ret [AV.ptr (0 : Nat) (0 : Nat), AV.bool true]
                                [Blk.box
                                    [AV.int IntKind.i64
                                        (IntKind.i64.wrap
                                          (IntKind.i64.wrap
                                              (IntKind.i64.wrap (n - (1 : Int)) -
                                                IntKind.i64.wrap ((↑(rd Ty.node l i).5.size : Int).tdiv (16 : Int))) -
                                            (↑(rd Ty.node l i).4.length : Int)))]])
                              (Rq
                                (szNds (rd Ty.node l i).6 < k ∧
                                  (0 : Int) ≤ IntKind.i64.wrap (d + (1 : Int)) ∧
                                    IntKind.i64.wrap (d + (1 : Int)) ≤ (61 : Int) ∧
                                      (-354 : Int) ≤
                                          IntKind.i64.wrap
                                            (IntKind.i64.wrap
                                                (IntKind.i64.wrap (n - (1 : Int)) -
                                                  IntKind.i64.wrap ((↑(rd Ty.node l i).5.size : Int).tdiv (16 : Int))) -
                                              (↑(rd Ty.node l i).4.length : Int)) ∧
                                        IntKind.i64.wrap
                                            (IntKind.i64.wrap
                                                (IntKind.i64.wrap (n - (1 : Int)) -
                                                  IntKind.i64.wrap ((↑(rd Ty.node l i).5.size : Int).tdiv (16 : Int))) -
                                              (↑(rd Ty.node l i).4.length : Int)) ≤
                                          (1000 : Int))
                                (Br
                                  (lgB (IntKind.i64.wrap (d + (1 : Int))) (rd Ty.node l i).6
                                    (IntKind.i64.wrap
                                      (IntKind.i64.wrap
                                          (IntKind.i64.wrap (n - (1 : Int)) -
                                            IntKind.i64.wrap ((↑(rd Ty.node l i).5.size : Int).tdiv (16 : Int))) -
                                        (↑(rd Ty.node l i).4.length : Int))))
                                  (K Ex.ret [AV.ptr (0 : Nat) (0 : Nat), AV.bool true]
                                    [Blk.box
                                        [AV.int IntKind.i64
                                            (lgN (IntKind.i64.wrap (d + (1 : Int))) (rd Ty.node l i).6
                                              (IntKind.i64.wrap
                                                (IntKind.i64.wrap
                                                    (IntKind.i64.wrap (n - (1 : Int)) -
                                                      IntKind.i64.wrap
                                                        ((↑(rd Ty.node l i).5.size : Int).tdiv (16 : Int))) -
                                                  (↑(rd Ty.node l i).4.length : Int))))]])
                                  (K Ex.norm
                                    [AV.ptr (0 : Nat) (0 : Nat), AV.int IntKind.i64 d, AV.row Ty.node l,
                                      AV.int IntKind.i64 m, AV.int IntKind.i64 (IntKind.i64.wrap (i + (1 : Int)))]
                                    [Blk.box
                                        [AV.int IntKind.i64
                                            (lgN (IntKind.i64.wrap (d + (1 : Int))) (rd Ty.node l i).6
                                              (IntKind.i64.wrap
                                                (IntKind.i64.wrap
                                                    (IntKind.i64.wrap (n - (1 : Int)) -
                                                      IntKind.i64.wrap
                                                        ((↑(rd Ty.node l i).5.size : Int).tdiv (16 : Int))) -
                                                  (↑(rd Ty.node l i).4.length : Int))))]])))))))))))))))))
  (K (Ex.exit (0 : Nat)) [AV.ptr (0 : Nat) (0 : Nat), AV.any] [Blk.box [AV.int IntKind.i64 n]])) := by kernel_rfl
theorem vcLargeF (k : Nat) (l : List Nd) (d n : Int) (Q : List AV → List Blk → List Blk → Prop) : (funA (cxLarge k) (LL Try.f35 [lsLarge k, lsLarge2]) Try.f35 [.row .node l, .ptr 0 0, .int .i64 d] [.box [.int .i64 n]] [] Q) = (
Br (decide (d > (60 : Int))) (Q [AV.bool true] [Blk.box [AV.int IntKind.i64 n]] [])
  (Gv (l.length ≤ maxSl)
    (Br (decide ((↑l.length : Int) > (500 : Int))) (Q [AV.bool true] [Blk.box [AV.int IntKind.i64 n]] [])
      (Gv (l.length ≤ maxSl)
        (Rq
          ((↑l.length : Int) = (↑l.length : Int) ∧
            (0 : Int) = (0 : Int) ∧
              l.length ≤ maxSl ∧
                szNds l < k + (1 : Nat) ∧ (0 : Int) ≤ d ∧ d ≤ (60 : Int) ∧ (-354 : Int) ≤ n ∧ n ≤ (1000 : Int))
          (Br (lpB d l n) (Q [AV.bool true] [Blk.box [AV.int IntKind.i64 (lpN d l n)]] [])
            (Q [AV.bool (decide (lpN d l n < (0 : Int)))] [Blk.box [AV.int IntKind.i64 (lpN d l n)]] []))))))) := by kernel_rfl
theorem vcLg22F (l : List Nd) (Q : List AV → List Blk → List Blk → Prop) : (funA cxLg (LL Try.f13 []) Try.f13 [.row .node l] [] [] Q) = (
Rq ((0 : Int) ≤ (1 : Int) ∧ (1 : Int) ≤ (61 : Int) ∧ (-354 : Int) ≤ (250 : Int) ∧ (250 : Int) ≤ (1000 : Int))
  (Q [AV.bool (lgB (1 : Int) l (250 : Int))] [] [])) := by kernel_rfl
theorem vcLo22B (s : List Ed) (m i n : Int) (K : Ex → List AV → List Blk → Prop) : (bodyA cxLg (LL Try.f14 [lsLong]) Try.f14.ntmps (loopAt Try.f14 0).1 (loopAt Try.f14 0).2 lsLong.keep lsLong.left K [.ptr 0 0, .row .edit s, .int .i64 m, .int .i64 i] [.box [.int .i64 n]]) = (
Br (decide (i < m))
  (Rq ((0 : Int) ≤ i ∧ i < (↑s.length : Int))
    (Br (decide ((↑(rd Ty.edit s i).2.length : Int) > (60 : Int)))
      (Gv ((rd Ty.edit s i).2.length ≤ maxSl)
        (K Ex.ret [AV.ptr (0 : Nat) (0 : Nat), AV.bool true] [Blk.box [AV.int IntKind.i64 n]]))
      (Rq ((0 : Int) ≤ (1 : Int) ∧ (1 : Int) ≤ (61 : Int) ∧ (-354 : Int) ≤ n ∧ n ≤ (1000 : Int))
        (Gv ((rd Ty.edit s i).2.length ≤ maxSl)
          (Br
            (lgB (1 : Int)
              [Nd.mk (rd Ty.edit s i).old.1 (rd Ty.edit s i).old.2 (rd Ty.edit s i).old.3 (rd Ty.edit s i).old.4
                  (rd Ty.edit s i).old.5 (rd Ty.edit s i).old.6,
                Nd.mk (rd Ty.edit s i).new.1 (rd Ty.edit s i).new.2 (rd Ty.edit s i).new.3 (rd Ty.edit s i).new.4
                  (rd Ty.edit s i).new.5 (rd Ty.edit s i).new.6]
              n)
            (K Ex.ret [AV.ptr (0 : Nat) (0 : Nat), AV.bool true]
              [Blk.box
                  [AV.int IntKind.i64
                      (lgN (1 : Int)
                        [Nd.mk (rd Ty.edit s i).old.1 (rd Ty.edit s i).old.2 (rd Ty.edit s i).old.3
                            (rd Ty.edit s i).old.4 (rd Ty.edit s i).old.5 (rd Ty.edit s i).old.6,
                          Nd.mk (rd Ty.edit s i).new.1 (rd Ty.edit s i).new.2 (rd Ty.edit s i).new.3
                            (rd Ty.edit s i).new.4 (rd Ty.edit s i).new.5 (rd Ty.edit s i).new.6]
                        n)]])
            (K Ex.norm
              [AV.ptr (0 : Nat) (0 : Nat), AV.row Ty.edit s, AV.int IntKind.i64 m,
                AV.int IntKind.i64 (IntKind.i64.wrap (i + (1 : Int)))]
              [Blk.box
                  [AV.int IntKind.i64
                      (lgN (1 : Int)
                        [Nd.mk (rd Ty.edit s i).old.1 (rd Ty.edit s i).old.2 (rd Ty.edit s i).old.3
                            (rd Ty.edit s i).old.4 (rd Ty.edit s i).old.5 (rd Ty.edit s i).old.6,
                          Nd.mk (rd Ty.edit s i).new.1 (rd Ty.edit s i).new.2 (rd Ty.edit s i).new.3
                            (rd Ty.edit s i).new.4 (rd Ty.edit s i).new.5 (rd Ty.edit s i).new.6]
                        n)]]))))))
  (K (Ex.exit (0 : Nat)) [AV.ptr (0 : Nat) (0 : Nat), AV.any] [Blk.box [AV.int IntKind.i64 n]])) := by kernel_rfl
theorem vcLo22F (s : List Ed) (Q : List AV → List Blk → List Blk → Prop) : (funA cxLg (LL Try.f14 [lsLong]) Try.f14 [.row .edit s] [] [] Q) = (
Gv (s.length ≤ maxSl)
  (Br (decide ((↑s.length : Int) > (50 : Int))) (Q [AV.bool true] [] [])
    (Gv (s.length ≤ maxSl)
      (Rq
        ((↑s.length : Int) = (↑s.length : Int) ∧
          (0 : Int) = (0 : Int) ∧ s.length ≤ maxSl ∧ (-354 : Int) ≤ (300 : Int) ∧ (300 : Int) ≤ (1000 : Int))
        (Br (loB s (300 : Int)) (Q [AV.bool true] [] []) (Q [AV.bool false] [] [])))))) := by kernel_rfl
theorem vcLg21F (l : List Nd) (Q : List AV → List Blk → List Blk → Prop) : (funA cxLg (LL Try.f26 []) Try.f26 [.row .node l] [] [] Q) = (
Rq ((0 : Int) ≤ (1 : Int) ∧ (1 : Int) ≤ (61 : Int) ∧ (-354 : Int) ≤ (250 : Int) ∧ (250 : Int) ≤ (1000 : Int))
  (Q [AV.bool (lgB (1 : Int) l (250 : Int))] [] [])) := by kernel_rfl
theorem vcLo21B (s : List Ed) (m i n : Int) (K : Ex → List AV → List Blk → Prop) : (bodyA cxLg (LL Try.f34 [lsLong]) Try.f34.ntmps (loopAt Try.f34 0).1 (loopAt Try.f34 0).2 lsLong.keep lsLong.left K [.ptr 0 0, .row .edit s, .int .i64 m, .int .i64 i] [.box [.int .i64 n]]) = (
Br (decide (i < m))
  (Rq ((0 : Int) ≤ i ∧ i < (↑s.length : Int))
    (Br (decide ((↑(rd Ty.edit s i).2.length : Int) > (60 : Int)))
      (Gv ((rd Ty.edit s i).2.length ≤ maxSl)
        (K Ex.ret [AV.ptr (0 : Nat) (0 : Nat), AV.bool true] [Blk.box [AV.int IntKind.i64 n]]))
      (Rq ((0 : Int) ≤ (1 : Int) ∧ (1 : Int) ≤ (61 : Int) ∧ (-354 : Int) ≤ n ∧ n ≤ (1000 : Int))
        (Gv ((rd Ty.edit s i).2.length ≤ maxSl)
          (Br
            (lgB (1 : Int)
              [Nd.mk (rd Ty.edit s i).old.1 (rd Ty.edit s i).old.2 (rd Ty.edit s i).old.3 (rd Ty.edit s i).old.4
                  (rd Ty.edit s i).old.5 (rd Ty.edit s i).old.6,
                Nd.mk (rd Ty.edit s i).new.1 (rd Ty.edit s i).new.2 (rd Ty.edit s i).new.3 (rd Ty.edit s i).new.4
                  (rd Ty.edit s i).new.5 (rd Ty.edit s i).new.6]
              n)
            (K Ex.ret [AV.ptr (0 : Nat) (0 : Nat), AV.bool true]
              [Blk.box
                  [AV.int IntKind.i64
                      (lgN (1 : Int)
                        [Nd.mk (rd Ty.edit s i).old.1 (rd Ty.edit s i).old.2 (rd Ty.edit s i).old.3
                            (rd Ty.edit s i).old.4 (rd Ty.edit s i).old.5 (rd Ty.edit s i).old.6,
                          Nd.mk (rd Ty.edit s i).new.1 (rd Ty.edit s i).new.2 (rd Ty.edit s i).new.3
                            (rd Ty.edit s i).new.4 (rd Ty.edit s i).new.5 (rd Ty.edit s i).new.6]
                        n)]])
            (K Ex.norm
              [AV.ptr (0 : Nat) (0 : Nat), AV.row Ty.edit s, AV.int IntKind.i64 m,
                AV.int IntKind.i64 (IntKind.i64.wrap (i + (1 : Int)))]
              [Blk.box
                  [AV.int IntKind.i64
                      (lgN (1 : Int)
                        [Nd.mk (rd Ty.edit s i).old.1 (rd Ty.edit s i).old.2 (rd Ty.edit s i).old.3
                            (rd Ty.edit s i).old.4 (rd Ty.edit s i).old.5 (rd Ty.edit s i).old.6,
                          Nd.mk (rd Ty.edit s i).new.1 (rd Ty.edit s i).new.2 (rd Ty.edit s i).new.3
                            (rd Ty.edit s i).new.4 (rd Ty.edit s i).new.5 (rd Ty.edit s i).new.6]
                        n)]]))))))
  (K (Ex.exit (0 : Nat)) [AV.ptr (0 : Nat) (0 : Nat), AV.any] [Blk.box [AV.int IntKind.i64 n]])) := by kernel_rfl
theorem vcLo21F (s : List Ed) (Q : List AV → List Blk → List Blk → Prop) : (funA cxLg (LL Try.f34 [lsLong]) Try.f34 [.row .edit s] [] [] Q) = (
Gv (s.length ≤ maxSl)
  (Br (decide ((↑s.length : Int) > (60 : Int))) (Q [AV.bool true] [] [])
    (Gv (s.length ≤ maxSl)
      (Rq
        ((↑s.length : Int) = (↑s.length : Int) ∧
          (0 : Int) = (0 : Int) ∧ s.length ≤ maxSl ∧ (-354 : Int) ≤ (300 : Int) ∧ (300 : Int) ≤ (1000 : Int))
        (Br (loB s (300 : Int)) (Q [AV.bool true] [] []) (Q [AV.bool false] [] [])))))) := by kernel_rfl
end Go.Proofs.Ytmkjjopflncedaa.AX
end
section
namespace Go.Proofs.Ytmkjjopflncedaa.AXP
open Go Go.Proofs.Ytmkjjopflncedaa.AX
def badNd (x : Nd) (n : Int) : Bool := decide (n - 1 < 0) || decide ((x.attrs.length : Int) > 40) || decide ((x.text.size : Int) > 5000) || decide ((x.name.size : Int) > 100)
def restNd (x : Nd) (n : Int) : Int := n - 1 - (x.text.size : Int).tdiv 16 - x.attrs.length
theorem lgNd_eq (d : Int) (x : Nd) (n : Int) : lgNd d x n = if badNd x n = true then (true, n - 1) else if attBad x.attrs = true then (true, restNd x n) else lgNds (d + 1) x.kids (restNd x n) := by
  cases x; rw [lgNd]; rfl
theorem lg_pair (d : Int) (l : List Nd) (n : Int) : lgNds d l n = (lgB d l n, lgN d l n) := rfl
theorem tdiv16 {t : ByteArray} (h : (t.size : Int) ≤ 5000) : 0 ≤ (t.size : Int).tdiv 16 ∧ (t.size : Int).tdiv 16 ≤ 312 := by
  rw [Int.tdiv_eq_ediv_of_nonneg (by omega)]; omega
theorem badNd_no {x : Nd} {n : Int} (h : badNd x n = false) : 0 ≤ n - 1 ∧ (x.attrs.length : Int) ≤ 40 ∧ (x.text.size : Int) ≤ 5000 ∧ (x.name.size : Int) ≤ 100 := by
  unfold badNd at h
  simp only [Bool.or_eq_false_iff, decide_eq_false_iff_not] at h
  omega
mutual
theorem lgNd_bd : ∀ (x : Nd) (d n : Int), -354 ≤ n → n ≤ 1000 → -355 ≤ (lgNd d x n).2 ∧ (lgNd d x n).2 ≤ 1000 ∧ ((lgNd d x n).1 = false → 0 ≤ (lgNd d x n).2 ∧ (wtNd x : Int) + (lgNd d x n).2 ≤ n)
  | ⟨k, s, m, a, t, c⟩, d, n, h1, h2 => by
    rw [lgNd_eq]
    cases hb : badNd ⟨k, s, m, a, t, c⟩ n with
    | true => simp only [if_true]; exact ⟨by omega, by omega, fun h => nomatch h⟩
    | false =>
      have hn := badNd_no hb
      have ht := tdiv16 hn.2.2.1
      dsimp only at hn ht
      have hr : restNd ⟨k, s, m, a, t, c⟩ n = n - 1 - (t.size : Int).tdiv 16 - a.length := rfl
      simp only [Bool.false_eq_true, if_false]
      split
      · exact ⟨by omega, by omega, fun h => nomatch h⟩
      · rw [hr]
        have h3 := lgLoop_bd c (d + 1) (n - 1 - (t.size : Int).tdiv 16 - a.length) (by omega) (by omega)
        show -355 ≤ (lgNds (d + 1) c _).2 ∧ _ ∧ ((lgNds (d + 1) c _).1 = false → _)
        unfold lgNds topOf
        split
        · exact ⟨by omega, by omega, fun h => nomatch h⟩
        · split
          · exact ⟨by omega, by omega, fun h => nomatch h⟩
          · rename_i h4
            have h5 := h3.2.2 (by simpa using h4)
            refine ⟨by omega, by omega, fun h => ?_⟩
            have h : ¬ (lgLoop (d + 1) c (n - 1 - (t.size : Int).tdiv 16 - a.length)).2 < 0 := by simpa using h
            rw [wtNd]
            dsimp only
            omega
theorem lgLoop_bd : ∀ (l : List Nd) (d n : Int), -354 ≤ n → n ≤ 1000 → -355 ≤ (lgLoop d l n).2 ∧ (lgLoop d l n).2 ≤ 1000 ∧ ((lgLoop d l n).1 = false → -354 ≤ (lgLoop d l n).2 ∧ (wtNds l : Int) + (lgLoop d l n).2 ≤ n)
  | [], d, n, h1, h2 => by rw [lgLoop]; exact ⟨by omega, by omega, fun _ => ⟨h1, by simp [wtNds]⟩⟩
  | x :: l, d, n, h1, h2 => by
    have h3 := lgNd_bd x d n h1 h2
    rw [lgLoop]
    split
    · exact ⟨h3.1, h3.2.1, fun h => nomatch h⟩
    · rename_i h4
      have h5 := h3.2.2 (by simpa using h4)
      have h6 := lgLoop_bd l d (lgNd d x n).2 (by omega) (by omega)
      refine ⟨h6.1, h6.2.1, fun h => ?_⟩
      have h7 := h6.2.2 h
      rw [wtNds]
      omega
end
theorem lgNds_bd (l : List Nd) (d n : Int) (h1 : -354 ≤ n) (h2 : n ≤ 1000) : -355 ≤ lgN d l n ∧ lgN d l n ≤ 1000 ∧ (lgB d l n = false → 0 ≤ lgN d l n ∧ (wtNds l : Int) + lgN d l n ≤ n) := by
  have h3 := lgLoop_bd l d n h1 h2
  unfold lgN lgB lgNds topOf
  split
  · exact ⟨by omega, by omega, fun h => nomatch h⟩
  · split
    · exact ⟨by omega, by omega, fun h => nomatch h⟩
    · rename_i h4
      have h5 := h3.2.2 (by simpa using h4)
      refine ⟨by omega, by omega, fun h => ?_⟩
      have h : ¬ (lgLoop d l n).2 < 0 := by simpa using h
      dsimp only
      omega
theorem lgLoop_snoc : ∀ {a : List Nd} {x : Nd} {d n : Int}, (lgLoop d a n).1 = false → lgLoop d (a ++ [x]) n = lgNd d x (lgLoop d a n).2
  | [], x, d, n, _ => by
    simp only [List.nil_append, lgLoop]
    split
    · rename_i h; rw [← h]
    · rename_i h; have h : (lgNd d x n).1 = false := by simpa using h
      rw [← h]
  | y :: a, x, d, n, h => by
    rw [lgLoop] at h
    rw [List.cons_append, lgLoop, lgLoop]
    split at h
    · cases h
    · rename_i h2
      rw [if_neg h2, if_neg h2]
      exact lgLoop_snoc h
theorem lgLoop_stop : ∀ {a b : List Nd} {x : Nd} {d n : Int}, (lgLoop d a n).1 = false → (lgNd d x (lgLoop d a n).2).1 = true → lgLoop d (a ++ x :: b) n = lgNd d x (lgLoop d a n).2
  | [], b, x, d, n, _, h => by
    rw [lgLoop] at h ⊢
    rw [List.nil_append, lgLoop, if_pos h, ← h]
  | y :: a, b, x, d, n, h, h3 => by
    rw [lgLoop] at h h3 ⊢
    rw [List.cons_append, lgLoop]
    split at h
    · cases h
    · rename_i h2
      rw [if_neg h2] at h3 ⊢
      rw [if_neg h2]
      exact lgLoop_stop h h3
theorem attBad_take {a : List At} {j : Nat} (h : j < a.length) : attBad (a.take (j + 1)) = (attBad (a.take j) || attBad1 a[j]) := by
  unfold attBad; rw [← List.take_append_getElem h, List.any_append]; simp
theorem attBad_of {a : List At} {j : Nat} (h : j < a.length) (hb : attBad1 a[j] = true) : attBad a = true := by
  unfold attBad; rw [List.any_eq_true]; exact ⟨_, List.getElem_mem h, hb⟩
theorem longL_snoc : ∀ {a : List Ed} {x : Ed} {n : Int}, (longL a n).1 = false → longL (a ++ [x]) n = longL [x] (longL a n).2
  | [], _, _, _ => rfl
  | y :: a, x, n, h => by
    rw [longL] at h
    rw [List.cons_append, longL]
    split at h
    · cases h
    · rename_i h1
      split at h
      · cases h
      · rename_i h2
        rw [if_neg h1, if_neg h2, longL_snoc h]
        congr 1
        rw [longL, if_neg h1, if_neg h2]
theorem longL_stop : ∀ {a b : List Ed} {x : Ed} {n : Int}, (longL a n).1 = false → (longL [x] (longL a n).2).1 = true → longL (a ++ x :: b) n = longL [x] (longL a n).2
  | [], b, x, n, _, h => by
    rw [show (longL [] n).2 = n from rfl] at h ⊢
    rw [List.nil_append, longL, longL]
    rw [longL] at h
    by_cases h1 : (x.way.length : Int) > 60
    · rw [if_pos h1, if_pos h1]
    · rw [if_neg h1] at h ⊢
      rw [if_neg h1]
      by_cases h2 : lgB 1 [x.old, x.new] n = true
      · rw [if_pos h2, if_pos h2]
      · rw [if_neg h2] at h; cases h
  | y :: a, b, x, n, h, h3 => by
    have e : longL (y :: a) n = (if (y.way.length : Int) > 60 then (true, n) else if lgB 1 [y.old, y.new] n = true then (true, lgN 1 [y.old, y.new] n) else longL a (lgN 1 [y.old, y.new] n)) := by rw [longL]
    rw [e] at h h3 ⊢
    rw [List.cons_append, longL]
    split at h
    · cases h
    · rename_i h1
      split at h
      · cases h
      · rename_i h2
        rw [if_neg h1, if_neg h2] at h3 ⊢
        rw [if_neg h1, if_neg h2]
        exact longL_stop h h3
theorem longL_bd : ∀ (s : List Ed) (n : Int), -354 ≤ n → n ≤ 1000 → -355 ≤ (longL s n).2 ∧ (longL s n).2 ≤ 1000 ∧ ((longL s n).1 = false → -354 ≤ (longL s n).2 ∧ (wtEds s : Int) + (longL s n).2 ≤ 61 * s.length + n)
  | [], n, h1, h2 => by rw [longL]; exact ⟨by omega, by omega, fun _ => ⟨h1, by simp [wtEds]⟩⟩
  | x :: s, n, h1, h2 => by
    have h3 := lgNds_bd [x.old, x.new] 1 n h1 h2
    rw [longL]
    split
    · exact ⟨by omega, by omega, fun h => nomatch h⟩
    · rename_i h4
      split
      · exact ⟨by omega, by omega, fun h => nomatch h⟩
      · rename_i h5
        have h6 := h3.2.2 (by simpa using h5)
        have h7 := longL_bd s (lgN 1 [x.old, x.new] n) (by omega) (by omega)
        refine ⟨h7.1, h7.2.1, fun h => ?_⟩
        have h8 := h7.2.2 h
        simp only [wtNds] at h6
        simp only [wtEds, wtEd, List.length_cons]
        omega
theorem large_wt {l : List Nd} (h : largeB l = false) : wtNds l ≤ 250 := by
  have := (lgNds_bd l 1 250 (by decide) (by decide)).2.2 h
  omega
theorem long_wt {m : Int} {s : List Ed} (hm : m ≤ 60) (h : longB m s = false) : wtEds s ≤ 5000 ∧ (s.length : Int) ≤ m := by
  unfold longB at h
  simp only [Bool.or_eq_false_iff, decide_eq_false_iff_not] at h
  have h2 := (longL_bd s 300 (by decide) (by decide)).2.2 h.2
  omega
end Go.Proofs.Ytmkjjopflncedaa.AXP
namespace Go.Proofs.Ytmkjjopflncedaa.AX
open Go Go.RowKit AXP
set_option maxRecDepth 100000
theorem lgNd_a {d n : Int} {x : Nd} (h : badNd x n = true) : lgNd d x n = (true, n - 1) := by rw [lgNd_eq, if_pos h]
theorem lgNd_b {d n : Int} {x : Nd} (h : badNd x n = false) (h' : attBad x.attrs = true) : lgNd d x n = (true, restNd x n) := by rw [lgNd_eq, if_neg (by rw [h]; decide), if_pos h']
theorem lgNd_c {d n : Int} {x : Nd} (h : badNd x n = false) (h' : attBad x.attrs = false) : lgNd d x n = (lgB (d + 1) x.kids (restNd x n), lgN (d + 1) x.kids (restNd x n)) := by rw [lgNd_eq, if_neg (by rw [h]; decide), if_neg (by rw [h']; decide)]; rfl
theorem large_sum2 (k : Nat) : SumOK (cxLarge k) (LL Try.f35 [lsLarge k, lsLarge2]) Try.f35.ntmps (loopAt Try.f35 1).1 (loopAt Try.f35 1).2 lsLarge2 := by
  intro vs bs K hs
  unfold lsLarge2 at hs
  simp only at hs
  split at hs
  case h_2 => exact hs.elim
  rename_i d l m i a ma j n b0 b1 b2 b3 b4 b5
  obtain ⟨⟨rfl, rfl, hl⟩, h⟩ := hs
  refine sum_for (fun j => attBad (a.take j) = false) (fun j => [.ptr 0 0, .int .i64 d, .ptr 1 0, .row .node l, .int .i64 m, .int .i64 i, .row .attr a, .int .i64 a.length, .int .i64 j]) (fun _ => [.box [.int .i64 n], .box [.int .i64 b0, .int .i64 b1, .str b2, .row .attr b3, .str b4, .row .node b5]]) a.length (fun j hj hp R hR => ?_) (fun hp R => ?_) rfl
  · refine Eq.mpr (vcLargeB2 k d l m i a a.length j n b0 b1 b2 b3 b4 b5 _) ⟨fun _ => ⟨⟨by omega, by omega⟩, ?_⟩, fun h => lt_of h hj⟩
    rw [rd_at hj]
    refine ⟨fun h1 => ⟨fun _ => h.yes (attBad_of hj ?_)⟩, fun h1 => ⟨fun _ => ⟨fun _ => ⟨fun h2 => h.yes (attBad_of hj ?_), fun h2 => ?_⟩⟩⟩⟩
    · unfold attBad1; rw [h1]; rfl
    · unfold attBad1; rw [h2]; simp
    · rw [wrap_succ hj hl]
      refine hR ?_
      rw [attBad_take hj, hp]
      unfold attBad1; rw [h1, h2]; rfl
  · refine Eq.mpr (vcLargeB2 k d l m i a a.length a.length n b0 b1 b2 b3 b4 b5 _) ⟨fun h => not_lt_self h, fun _ => h.no ?_⟩
    rw [List.take_length] at hp; exact hp
theorem large_sum (k : Nat) : SumOK (cxLarge k) (LL Try.f35 [lsLarge k, lsLarge2]) Try.f35.ntmps (loopAt Try.f35 0).1 (loopAt Try.f35 0).2 (lsLarge k) := by
  intro vs bs K hs
  unfold lsLarge at hs
  simp only at hs
  split at hs
  case h_2 => exact hs.elim
  rename_i d l m i n
  obtain ⟨⟨rfl, rfl, hl, hk, hd0, hd1, hn0, hn1⟩, h⟩ := hs
  refine sum_for (fun i => lpB d (l.take i) n = false) (fun i => [.ptr 0 0, .int .i64 d, .row .node l, .int .i64 l.length, .int .i64 i]) (fun i => [.box [.int .i64 (lpN d (l.take i) n)]]) l.length (fun i hi hp R hR => ?_) (fun hp R => ?_) rfl
  · have hbd := lgLoop_bd (l.take i) d n hn0 hn1
    obtain ⟨hb0, hb1, hb2⟩ := hbd
    have hb2 := (hb2 hp).1
    obtain ⟨n', hn'⟩ : ∃ n', n' = lpN d (l.take i) n := ⟨_, rfl⟩
    have hb1 : n' ≤ 1000 := by rw [hn']; exact hb1
    have hb2 : -354 ≤ n' := by rw [hn']; exact hb2
    have hsp : l = l.take i ++ l[i] :: l.drop (i + 1) := by rw [← List.drop_eq_getElem_cons hi, List.take_append_drop]
    have stop : ∀ v, lgNd d l[i] n' = (true, v) → K .ret [.ptr 0 0, .bool true] [.box [.int .i64 v]] := by
      intro v hv
      have h1 := lgLoop_stop (b := l.drop (i + 1)) (x := l[i]) hp (by rw [← lpN.eq_1, ← hn', hv])
      rw [← hsp, ← lpN.eq_1, ← hn', hv] at h1
      have := h.yes (by unfold lpB; rw [h1])
      rw [show lpN d l n = v by unfold lpN; rw [h1]] at this
      exact this
    rw [← hn']
    refine Eq.mpr (vcLargeB k d l l.length i n' _) ⟨fun _ => ⟨⟨by omega, by omega⟩, ?_⟩, fun h => lt_of h hi⟩
    have hw1 : IntKind.i64.wrap (n' - 1) = n' - 1 := by rw [wrap_id'] <;> omega
    rw [rd_nd hi, hw1]
    refine ⟨fun h1 => stop _ (lgNd_a (by unfold badNd; rw [h1]; rfl)), fun h1 => ⟨fun h2 => ⟨fun _ => stop _ (lgNd_a (by unfold badNd; rw [h2]; simp))⟩, fun h2 => ⟨fun h3 => ⟨fun _ => ⟨fun _ => stop _ (lgNd_a (by unfold badNd; rw [h3]; simp))⟩⟩, fun h3 => ⟨fun _ => ⟨fun _ => ⟨fun _ => ⟨fun h4 => stop _ (lgNd_a (by unfold badNd; rw [h4]; simp)), fun h4 => ⟨by decide, ⟨fun _ => ⟨fun _ => ⟨fun hm => ⟨⟨rfl, rfl, hm⟩, ?_⟩⟩⟩⟩⟩⟩⟩⟩⟩⟩⟩⟩
    have hbad : badNd l[i] n' = false := by unfold badNd; rw [h1, h2, h3, h4]; rfl
    have hno := badNd_no hbad
    have ht := tdiv16 hno.2.2.1
    have hrest : restNd l[i] n' = n' - 1 - (l[i].text.size : Int).tdiv 16 - l[i].attrs.length := rfl
    have hw2 : IntKind.i64.wrap ((l[i].text.size : Int).tdiv 16) = (l[i].text.size : Int).tdiv 16 := by rw [wrap_id'] <;> omega
    have hw3 : IntKind.i64.wrap (n' - 1 - (l[i].text.size : Int).tdiv 16) = n' - 1 - (l[i].text.size : Int).tdiv 16 := by rw [wrap_id'] <;> omega
    have hw4 : IntKind.i64.wrap (n' - 1 - (l[i].text.size : Int).tdiv 16 - l[i].attrs.length) = restNd l[i] n' := by rw [hrest, wrap_id'] <;> omega
    have hw5 : IntKind.i64.wrap (d + 1) = d + 1 := by rw [wrap_id'] <;> omega
    rw [hw2, hw3, hw4, hw5]
    refine ⟨fun h5 => stop _ (lgNd_b hbad h5), fun h5 => ⟨⟨Nat.lt_of_lt_of_le (szNds_kids hi) (Nat.le_of_lt_succ hk), by omega, by omega, by omega, by omega⟩, ⟨fun h6 => stop _ ?_, fun h6 => ?_⟩⟩⟩
    · rw [lgNd_c hbad h5, h6]
    · have e1 : lgLoop d (l.take (i + 1)) n = (false, lgN (d + 1) l[i].kids (restNd l[i] n')) := by
        rw [← List.take_append_getElem hi, lgLoop_snoc hp, ← lpN.eq_1, ← hn', lgNd_c hbad h5, h6]
      rw [wrap_succ hi hl]
      have := hR (by unfold lpB; rw [e1])
      rw [show lpN d (l.take (i + 1)) n = lgN (d + 1) l[i].kids (restNd l[i] n') by unfold lpN; rw [e1]] at this
      exact this
  · refine Eq.mpr (vcLargeB k d l l.length l.length _ _) ⟨fun h => not_lt_self h, fun _ => ?_⟩
    rw [List.take_length] at hp ⊢
    exact h.no hp
theorem int1_le {x : AV} {n : Int} (h : intOf x = some n) : AVle x (.int .i64 n) := Pm.le (p := .int) h
theorem large_lt : ∀ k, Holds 35 (conLargeLt k)
  | 0 => by
    intro args hp ans hc
    unfold conLargeLt at hc
    split at hc
    · simp only [Option.bind_eq_some_iff] at hc
      obtain ⟨a, hx, hc⟩ := hc
      injection hc with hc
      subst hc
      intro F I w vals _ _ hpre
      exact absurd (hpre _ rfl).1 (Nat.not_lt_zero _)
    · cases hc
  | k + 1 => by
    intro args hp ans hc
    unfold conLargeLt at hc
    split at hc
    case h_2 => cases hc
    rename_i x d n
    simp only [Option.bind_eq_some_iff] at hc
    obtain ⟨l, hx, hc⟩ := hc
    injection hc with hc
    subst hc
    refine Meets.weaken (args' := [.row .node l, .ptr 0 0, .int .i64 d]) (.cons (rowOf_le hx) (.cons (.refl _) (.cons (.refl _) .nil))) ?_
    refine fun_meets2 (AllH.tok (.cons (large_lt k) (by kernel_rfl) .nil)) [] (lsLarge k) lsLarge2 (by kernel_rfl) (by kernel_rfl) (large_sum k) (large_sum2 k) fun hpre => Eq.mpr (vcLargeF k l d n _) ?_
    obtain ⟨p1, p2, p3, p4, p5⟩ := hpre _ rfl
    have e : ∀ b v, lgNds d l n = (b, v) → lgB d l n = b ∧ lgN d l n = v := fun b v h => ⟨by unfold lgB; rw [h], by unfold lgN; rw [h]⟩
    have fin : ∀ b v, lgNds d l n = (b, v) → FinQ { pre := some (szNds l < k + 1 ∧ 0 ≤ d ∧ d ≤ 61 ∧ -354 ≤ n ∧ n ≤ 1000), res := .bool (lgB d l n), hp := [.box [.int .i64 (lgN d l n)]] } [.bool b] [.box [.int .i64 v]] [] := fun b v h => by
      obtain ⟨z1, z2⟩ := e b v h
      refine qfin rfl ?_ ?_ rfl
      · show _ = [AV.bool (lgB d l n)]; rw [z1]
      · show _ = [Blk.box [.int .i64 (lgN d l n)]]; rw [z2]
    refine ⟨fun h1 => fin _ _ ?_, fun h1 => ⟨fun _ => ⟨fun h2 => fin _ _ ?_, fun h2 => ⟨fun hm => ⟨⟨rfl, rfl, hm, p1, p2, by simp at h1; omega, p4, p5⟩, ⟨fun h3 => fin _ _ ?_, fun h3 => fin _ _ ?_⟩⟩⟩⟩⟩⟩
    · unfold lgNds topOf; rw [h1]; rfl
    · unfold lgNds topOf; rw [h2]; simp
    · unfold lpB at h3; unfold lgNds topOf; rw [h1, h2]; simp only [Bool.or_self, Bool.false_eq_true, if_false, h3, if_true]; rfl
    · unfold lpB at h3; unfold lgNds topOf; rw [h1, h2]; simp only [Bool.or_self, Bool.false_eq_true, if_false, h3]; rfl
theorem large_holds : Holds 35 conLarge := by
  intro args hp ans hc
  unfold conLarge at hc
  split at hc
  case h_2 => cases hc
  rename_i x d n
  simp only [Option.bind_eq_some_iff] at hc
  obtain ⟨l, hx, hc⟩ := hc
  injection hc with hc
  subst hc
  have := large_lt (szNds l + 1) [x, .ptr 0 0, .int .i64 d] [.box [.int .i64 n]] _ (by simp only [conLargeLt, hx, Option.bind_some]; rfl)
  exact fun F I w vals hH hv hpre => this F I w vals hH hv (fun p hp => by injection hp with hp; subst hp; exact ⟨Nat.lt_succ_self _, hpre _ rfl⟩)
theorem tokLg : TOK cxLg := AllH.tok (.cons large_holds (by kernel_rfl) .nil)
def conLg : Con := conP [.row .node] fun (l : List Nd) => { res := .bool (largeB l) }
def conLo (m : Int) : Con := conP [.row .edit] fun (s : List Ed) => { res := .bool (longB m s) }
theorem lg22_holds : Holds 13 conLg := conP_holds fun l => by
  exact fun_meets0 tokLg [] (by kernel_rfl) (by kernel_rfl) fun hpre => Eq.mpr (vcLg22F l _) ⟨by decide, qfin rfl rfl rfl rfl⟩
theorem lg21_holds : Holds 26 conLg := conP_holds fun l => by
  exact fun_meets0 tokLg [] (by kernel_rfl) (by kernel_rfl) fun hpre => Eq.mpr (vcLg21F l _) ⟨by decide, qfin rfl rfl rfl rfl⟩
theorem long_sum {L : Loops} {n0 bl : Nat} {c : Code} (hb : ∀ (s : List Ed) (i : Nat) (n : Int) (K : Ex → List AV → List Blk → Prop), (s.length ≤ maxSl) → -354 ≤ n → n ≤ 1000 →
    (∀ h : i < s.length, (∀ v, longL [s[i]] n = (true, v) → K .ret [.ptr 0 0, .bool true] [.box [.int .i64 v]]) ∧ (∀ v, longL [s[i]] n = (false, v) → K .norm [.ptr 0 0, .row .edit s, .int .i64 s.length, .int .i64 (i + 1 : Nat)] [.box [.int .i64 v]])) → (s.length ≤ i → K (.exit 0) [.ptr 0 0, .any] [.box [.int .i64 n]]) → bodyA cxLg L n0 bl c lsLong.keep lsLong.left K [.ptr 0 0, .row .edit s, .int .i64 s.length, .int .i64 i] [.box [.int .i64 n]]) : SumOK cxLg L n0 bl c lsLong := by
  intro vs bs K hs
  unfold lsLong at hs
  simp only at hs
  split at hs
  case h_2 => exact hs.elim
  rename_i s m i n
  obtain ⟨⟨rfl, rfl, hl, hn0, hn1⟩, h⟩ := hs
  refine sum_for (fun i => loB (s.take i) n = false) (fun i => [.ptr 0 0, .row .edit s, .int .i64 s.length, .int .i64 i]) (fun i => [.box [.int .i64 (loN (s.take i) n)]]) s.length (fun i hi hp R hR => ?_) (fun hp R => ?_) rfl
  · have hbd := longL_bd (s.take i) n hn0 hn1
    refine hb s i _ _ hl (hbd.2.2 hp).1 hbd.2.1 (fun _ => ⟨fun v hv => ?_, fun v hv => ?_⟩) (fun h => by omega)
    · have hsp : s = s.take i ++ s[i] :: s.drop (i + 1) := by rw [← List.drop_eq_getElem_cons hi, List.take_append_drop]
      have h1 := longL_stop (b := s.drop (i + 1)) (x := s[i]) hp (by rw [← loN.eq_1, hv])
      rw [← hsp, ← loN.eq_1, hv] at h1
      have := h.yes (by unfold loB; rw [h1])
      rw [show loN s n = v by unfold loN; rw [h1]] at this
      exact this
    · have e1 : longL (s.take (i + 1)) n = (false, v) := by rw [← take_snoc hi, longL_snoc hp, ← loN.eq_1, hv]
      have := hR (by unfold loB; rw [e1])
      rw [show loN (s.take (i + 1)) n = v by unfold loN; rw [e1]] at this
      exact this
  · have hbd := longL_bd (s.take s.length) n hn0 hn1
    refine hb s s.length _ _ hl (hbd.2.2 hp).1 hbd.2.1 (fun h => by omega) (fun _ => ?_)
    rw [List.take_length] at hp ⊢
    exact h.no hp
theorem lo22_holds : Holds 14 (conLo 50) := conP_holds fun s => by
  refine fun_meets1 tokLg [] lsLong (by kernel_rfl) (by kernel_rfl) (long_sum fun s i n K hl hn0 hn1 h1 h2 => ?_) fun hpre => Eq.mpr (vcLo22F s _) ?_
  · refine Eq.mpr (vcLo22B s s.length i n _) ⟨fun h => ?_, fun h => h2 ?_⟩
    · have hi : i < s.length := by simpa using h
      obtain ⟨g1, g2⟩ := h1 hi
      rw [rd_ed hi]
      simp only [nd_eta]
      refine ⟨⟨by omega, by omega⟩, ⟨fun h3 => ⟨fun _ => g1 _ ?_⟩, fun h3 => ⟨⟨by decide, by decide, hn0, hn1⟩, ⟨fun _ => ⟨fun h4 => g1 _ ?_, fun h4 => ?_⟩⟩⟩⟩⟩
      · rw [longL, if_pos (by simpa using h3)]
      · rw [longL, if_neg (by simpa using h3), if_pos h4]
      · rw [wrap_succ hi hl]
        exact g2 _ (by rw [longL, if_neg (by simpa using h3), if_neg (by rw [h4]; decide), longL])
    · simp at h; omega
  · have e : ∀ b, longB 50 s = b → [AV.bool b] = compsOf (AV.bool (longB 50 s)) := fun b h => by rw [h]; rfl
    refine ⟨fun hm => ⟨fun h1 => qfin rfl (e _ ?_) rfl rfl, fun h1 => ⟨fun _ => ⟨⟨rfl, rfl, hm, by decide, by decide⟩, ⟨fun h2 => qfin rfl (e _ ?_) rfl rfl, fun h2 => qfin rfl (e _ ?_) rfl rfl⟩⟩⟩⟩⟩
    · unfold longB; rw [h1]; rfl
    · unfold longB; rw [h2]; simp
    · unfold longB; rw [h1, h2]; rfl
theorem lo21_holds : Holds 34 (conLo 60) := conP_holds fun s => by
  refine fun_meets1 tokLg [] lsLong (by kernel_rfl) (by kernel_rfl) (long_sum fun s i n K hl hn0 hn1 h1 h2 => ?_) fun hpre => Eq.mpr (vcLo21F s _) ?_
  · refine Eq.mpr (vcLo21B s s.length i n _) ⟨fun h => ?_, fun h => h2 ?_⟩
    · have hi : i < s.length := by simpa using h
      obtain ⟨g1, g2⟩ := h1 hi
      rw [rd_ed hi]
      simp only [nd_eta]
      refine ⟨⟨by omega, by omega⟩, ⟨fun h3 => ⟨fun _ => g1 _ ?_⟩, fun h3 => ⟨⟨by decide, by decide, hn0, hn1⟩, ⟨fun _ => ⟨fun h4 => g1 _ ?_, fun h4 => ?_⟩⟩⟩⟩⟩
      · rw [longL, if_pos (by simpa using h3)]
      · rw [longL, if_neg (by simpa using h3), if_pos h4]
      · rw [wrap_succ hi hl]
        exact g2 _ (by rw [longL, if_neg (by simpa using h3), if_neg (by rw [h4]; decide), longL])
    · simp at h; omega
  · have e : ∀ b, longB 60 s = b → [AV.bool b] = compsOf (AV.bool (longB 60 s)) := fun b h => by rw [h]; rfl
    refine ⟨fun hm => ⟨fun h1 => qfin rfl (e _ ?_) rfl rfl, fun h1 => ⟨fun _ => ⟨⟨rfl, rfl, hm, by decide, by decide⟩, ⟨fun h2 => qfin rfl (e _ ?_) rfl rfl, fun h2 => qfin rfl (e _ ?_) rfl rfl⟩⟩⟩⟩⟩
    · unfold longB; rw [h1]; rfl
    · unfold longB; rw [h2]; simp
    · unfold longB; rw [h1, h2]; rfl
end Go.Proofs.Ytmkjjopflncedaa.AX
end
section
namespace Go.Proofs.Ytmkjjopflncedaa.AX
open Go AXP
def coldAt (r : Nat) (l : List Nat) (n : Nat) : List Nat := match Nat.beq n r with
  | true => l
  | false => []
noncomputable def cxNone22 : Cx := cxC (tabLook [(21, conAbout), (16, conSteps), (25, conShort)]) (coldAt 2 [2])
def conNone22 : Con := conP [] { res := .bool true }
noncomputable def cxTwice : Cx := cxT (tabLook [(14, conLo 50), (21, conAbout), (22, conEdSame), (15, conNone22)])
end Go.Proofs.Ytmkjjopflncedaa.AX
end
