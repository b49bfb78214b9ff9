/- What the code of this statement does, over values that stand for data: an executor of the model's code, that it is sound, and contracts of functions: part 2. No condition is added to the statement. -/
import Derived.Test.YtnhipiedjekkpaaGreatDoorMD1
import Derived.LoopN
import Derived.Scope
set_option linter.unusedVariables false
set_option linter.unusedSimpArgs false
section
namespace Go.Proofs.YtnhipiedjekkpaaGreatDoor.AX
open Go Go.RowKit

structure TOK (cx : Cx) : Prop where
  meets : ∀ f args hp ans, cx.T f args hp = some ans → Meets cx f args hp ans
  enter : ∀ f args hp ans, cx.T f args hp = some ans → ∀ vals w, (callFunc f vals).run cx.P w = .ok (.enter f vals) w

section
variable {cx : Cx} {w0 w : World} {E F : Nat → Prop} {I : Im} {s : St} {a : Act} {o : Oper} {next : Act → World → Prop} {Q : Exit → Act → World → Prop} {e : Eff} {l : List Nat} {fr : Nat}

theorem mapVs_R {tid : Env} {hp : List (Option Blk)} {J : List Nat} {O' : Nat → Prop} (hH : HRel tid F I hp w) (hO : ∀ b, O' b → Own F I b) {lend : Bool} : ∀ {xs ys : List AV} {l : List Nat}, (lend = true → LentOK I J O' (xs.flatMap lentV)) → (mapVs J lend xs).run hp = some (ys, l) →
    ∀ {vs : List Value}, All2 (ValR w (Own F I) I) vs xs → All2 (ValR1 w O' (sel I J)) vs ys
  | [], ys, l, _, hrun, vs, hv => by
    obtain ⟨rfl, _⟩ := run_ret hrun
    cases hv; exact .nil
  | x :: xs, ys, l, hL, hrun, vs, hv => by
    simp only [mapVs] at hrun
    obtain ⟨y, _, _, h1, h2, _⟩ := run_bind hrun
    obtain ⟨ys', _, _, h3, h4, _⟩ := run_bind h2
    obtain ⟨rfl, _⟩ := run_ret h4
    cases hv with | cons ha hv =>
    refine .cons ?_ (mapVs_R hH hO (fun hl id hid => by
      obtain ⟨z, hz, hi⟩ := List.mem_flatMap.1 hid
      exact hL hl id (List.mem_flatMap.2 ⟨z, .tail _ hz, hi⟩)) h3 hv)
    by_cases et : ∃ vs, x = .tup vs
    · obtain ⟨us, rfl⟩ := et
      cases us with
      | nil =>
        obtain ⟨rfl, _⟩ := run_ret (show (Rd.ret (AV.tup [])).run hp = _ from h1)
        obtain ⟨cs, rfl, hc⟩ := ha
        cases hc
        exact ⟨rfl, rfl⟩
      | cons u us =>
        obtain ⟨rfl, _⟩ := run_ret (show (Rd.ret AV.any).run hp = _ from h1)
        trivial
    · rw [ValR.is1 (fun vs h => et ⟨vs, h⟩)] at ha
      exact mapV1_R hH hO (fun hl id hid => hL hl id (List.mem_flatMap.2 ⟨x, .head _, hid⟩)) h1 ha

theorem setAll_deads_mem {id : Nat} : ∀ {dl : List Nat} {hp : List (Option Blk)}, id ∈ dl → id < hp.length → (setAll hp (deads dl)).getD id none = some .dead
  | [], _, h, _ => by cases h
  | k :: dl, hp, h, hlt => by
    show (setAll (hp.set k (some .dead)) (deads dl)).getD id none = _
    by_cases hk : id ∈ dl
    · exact setAll_deads_mem hk (by simpa using hlt)
    · rw [setAll_deads_get hk]
      cases h with
      | head => exact getD_set_same hlt _
      | tail _ h => exact absurd h hk
theorem renId_lt {J : List Nat} {fr i : Nat} (h : i < J.length) : renId J fr i = J[i] := by
  unfold renId; rw [List.getElem?_eq_getElem h]
theorem renId_ge {J : List Nat} {fr i : Nat} (h : J.length ≤ i) : renId J fr i = fr + (i - J.length) := by
  unfold renId; rw [List.getElem?_eq_none h]

theorem sameV_get (s : List Nat) : ∀ (k : Nat) (l : List Nat) (i : Nat), (sameV s k l).getD i 0 = match hasN s (k + i) with
    | true => l.getD i 0 - 1
    | false => l.getD i 0
  | k, [], i => by cases hasN s (k + i) <;> simp [sameV]
  | k, v :: l, 0 => by rw [Nat.add_zero]; simp only [sameV, List.getD_cons_zero]; cases hasN s k <;> rfl
  | k, v :: l, i + 1 => by
    have := sameV_get s (k + 1) l i
    rw [show k + 1 + i = k + (i + 1) from by omega] at this
    simpa [sameV] using this
theorem lent_some {w : World} {O : Nat → Prop} {vs : List Value} {xs : List AV} (h : All2 (ValR w O I) vs xs) : ∀ id ∈ xs.flatMap lentV, (I id).isSome = true := by
  intro id hid
  obtain ⟨x, hx, hi⟩ := List.mem_flatMap.1 hid
  obtain ⟨j, hj⟩ := List.getElem?_of_mem hx
  obtain ⟨v, _, hv⟩ := h.get hj
  have leaf : ∀ (v : Value) (y : AV), LeafR w O I v y → id ∈ lentL y → (I id).isSome = true := by
    intro v y hy hi
    cases y <;> simp only [lentL] at hi <;> first | (cases hi; done) | skip
    have := List.mem_singleton.1 hi
    subst this
    exact (ValR.own (show ValR w O I v _ from hy)).1
  cases x with
  | agg fs =>
    obtain ⟨cs, _, hall⟩ := hv
    obtain ⟨y, hy, hi⟩ := List.mem_flatMap.1 hi
    obtain ⟨j, hj⟩ := List.getElem?_of_mem hy
    obtain ⟨u, _, hu⟩ := hall.get hj
    exact leaf u y hu hi
  | own id' n => exact leaf v _ hv hi
  | _ => cases hi

theorem op_call (tok : TOK cx) (c : Call) (f : Operand) (g : Nat) (caps : List AV) (ho : o.op = .call c) (hcal : c.callee = .value f) (hf : evalA cx.tid.glob s f = .fn g caps) (hR : Rel cx.tid w0 E F I s a w) (hfr : Fresh s.hp fr)
    (hrun : (callA cx fr g (c.args.toList.map (evalA cx.tid.glob s) ++ caps)).run s.hp = some (e, l)) (hp : preP e)
    (hn : ∀ I' a' w', Rel cx.tid w0 E F I' (stepSt s o.dst e) a' w' → givenP e → next a' w') : o.wp cx.P a w next Q := by
  have hH := hR.toH
  have hfv := hR.ev f
  rw [hf] at hfv
  obtain ⟨cs, hfv, hcs⟩ := hfv.fn
  unfold callA at hrun
  obtain ⟨J, _, _, _, h2, _⟩ := run_bind hrun
  obtain ⟨args', _, _, h3, h4, _⟩ := run_bind h2
  obtain ⟨⟨hp', vers⟩, _, _, h5, h6, _⟩ := run_bind h4
  simp only at h6
  split at h6
  case isFalse => exact (run_fail h6).elim
  rename_i hnd
  obtain ⟨ans, _, _, h7, h8, _⟩ := run_bind h6
  have h7 := (run_of h7).1
  split at h8
  case isFalse => exact (run_fail h8).elim
  rename_i hlen
  simp only [Bool.and_eq_true] at hlen
  have hl1 := Nat.eq_of_beq_eq_true hlen.1
  have hl2 := Nat.le_of_ble_eq_true hlen.2
  obtain ⟨rfl, _⟩ := run_ret h8
  clear h8 h6 h4 h2 hrun
  generalize hAV : c.args.toList.map (evalA cx.tid.glob s) ++ caps = avs at *
  generalize hlent : avs.flatMap lentV = lent at *
  have hvs : ∀ i, (sameV ans.same 0 vers).getD i 0 = match hasN ans.same i with
      | true => vers.getD i 0 - 1
      | false => vers.getD i 0 := fun i => by
    have := sameV_get ans.same 0 vers i
    rwa [Nat.zero_add] at this
  generalize hvers' : sameV ans.same 0 vers = vers' at *
  -- the callee's view
  let F' : Nat → Prop := fun b => F b ∨ ∃ id l, I id = some l ∧ l.has b ∧ id ∉ J ∧ id ∉ lent
  have hF' : ∀ b, F' b → Own F I b := fun b h => by
    rcases h with h | ⟨id, l, h1, h2, _⟩
    · exact .inl h
    · exact .inr ⟨id, l, h1, h2⟩
  have hap : ∀ b, F' b → ∀ i l, sel I J i = some l → ¬ l.has b := by
    intro b hb i l hi hh
    obtain ⟨id, l0, hJ, h0, rfl⟩ := sel_some hi
    rcases hb with hb | ⟨id', l', h1, h2, h3, _⟩
    · exact hR.apart id l0 b h0 (reset_has.1 hh) hb
    · have := hR.inj id id' l0 l' b h0 h1 (reset_has.1 hh) h2
      subst this
      exact h3 (List.mem_of_getElem? hJ)
  have hO : ∀ b, Own F' (sel I J) b → Own F I b := by
    intro b hb
    rcases hb with hb | ⟨i, l, hi, hb⟩
    · exact hF' b hb
    · obtain ⟨id, l0, _, h0, rfl⟩ := sel_some hi
      exact .inr ⟨id, l0, h0, reset_has.1 hb⟩
  have hLent : LentOK I J (Own F' (sel I J)) lent := by
    intro id hid hpos l g hl hg hown
    have hnJ := pos_none hpos
    rcases hown with (h | ⟨id', l', h1, h2, h3, h4⟩) | ⟨i, l', hi, hh⟩
    · exact hR.apart id l g hl hg h
    · have := hR.inj id id' l l' g hl h1 hg h2
      subst this; exact h4 hid
    · obtain ⟨id', l0, hJ, h0, rfl⟩ := sel_some hi
      have := hR.inj id id' l l0 g hl h0 hg (reset_has.1 hh)
      subst this; exact hnJ (List.mem_of_getElem? hJ)
  have hcallH := mapBs_R hH hF' hap hnd h5
  obtain ⟨hbl, hvl, hbget⟩ := mapBs_get (O' := Own F' (sel I J)) hH hO h5
  have hargs : All2 (ValR w (Own F I) I) ((c.args.map a.eval).toList ++ cs) avs := by
    rw [← hAV]
    refine .append ?_ (hcs.mono fun _ _ h => .leaf h)
    rw [Array.toList_map]
    generalize c.args.toList = al
    clear hAV
    induction al with
    | nil => exact .nil
    | cons x al ih => exact .cons (hR.ev x) ih
  have hargs' := mapVs_R hH hO (lend := cx.lend g) (fun _ => by rw [hlent]; exact hLent) h3 hargs
  have hcall := tok.meets _ _ _ _ h7 F' (sel I J) w _ hcallH hargs' (fun p hpp => by
    have : preP { pre := ans.pre, given := ans.given } := hp
    unfold preP at this
    rw [hpp] at this
    exact this)
  have hent := tok.enter _ _ _ _ h7
  have hexec : (execOp a.eval o).run cx.P w = .ok (.enter g ((c.args.map a.eval).toList ++ cs).toArray) w := by
    have : (c.args.map a.eval) ++ cs.toArray = ((c.args.map a.eval).toList ++ cs).toArray := by apply Array.ext'; simp
    simp only [execOp, ho, resolve, hcal, Deferred.ofValue, hfv, Sem.run_bind, Sem.run_pure, Result.andThen_ok, invoke, pure_bind, Array.empty_append, this, hent]
  unfold Oper.wp
  rw [hexec]
  refine Calls.mono hcall ?_
  rintro e' w' ⟨v, I', rfl, hres, hH', hgiven, hkeep, hplace, hos, htape, hout, hsz, hframe⟩
  -- back under the caller's numbers
  let n := (ans.hp ++ ans.extra).length
  have hn_def : n = J.length + ans.extra.length := by show (ans.hp ++ ans.extra).length = _; rw [List.length_append, hl1]
  have hJsome : ∀ i (h : i < J.length), ∃ l0, I J[i] = some l0 ∧ l0 ≠ .dead ∧ (∀ n t v, l0 = .row n t v → vers[i]? = some (n + 1)) ∧ ∃ b0, s.hp.getD J[i] none = some b0 := by
    intro i h
    obtain ⟨b, l0, _, h0, _, h2, h3⟩ := hbget i J[i] (List.getElem?_eq_getElem h)
    refine ⟨l0, h0, h3, h2, ?_⟩
    have hh := hR.hp J[i]
    generalize s.hp.getD J[i] none = ob at hh
    cases ob with
    | some b => exact ⟨b, rfl⟩
    | none => have hh : I J[i] = none := hh; rw [hh] at h0; cases h0
  have hfree : ∀ j, j < ans.extra.length → s.hp.getD (fr + j) none = none ∧ fr + j < s.hp.length := fun j hj => hfr j (by omega)
  have hinj : ∀ i j, i < n → j < n → renId J fr i = renId J fr j → i = j := by
    intro i j hi hj hij
    rcases Nat.lt_or_ge i J.length with h1 | h1 <;> rcases Nat.lt_or_ge j J.length with h2 | h2
    · rw [renId_lt h1, renId_lt h2] at hij
      exact nodupB_inj hnd (List.getElem?_eq_getElem h1) (by rw [hij]; exact List.getElem?_eq_getElem h2)
    · rw [renId_lt h1, renId_ge h2] at hij
      obtain ⟨_, _, _, _, b0, hb0⟩ := hJsome i h1
      have := (hfree (j - J.length) (by omega)).1
      rw [← hij, hb0] at this; cases this
    · rw [renId_ge h1, renId_lt h2] at hij
      obtain ⟨_, _, _, _, b0, hb0⟩ := hJsome j h2
      have := (hfree (i - J.length) (by omega)).1
      rw [hij, hb0] at this; cases this
    · rw [renId_ge h1, renId_ge h2] at hij; omega
  let dl : List Nat := if flatAns ans then [] else lent.filter fun id => (pos J id).isNone
  let I'' : Im := fun id => match (List.range n).find? (fun i => renId J fr i == id) with
    | some i => (I' i).map (shift (vers'.getD i 0))
    | none => if id ∈ dl then some .dead else I id
  have hnew : ∀ i, i < n → I'' (renId J fr i) = (I' i).map (shift (vers'.getD i 0)) := by
    intro i hi
    have : (List.range n).find? (fun j => renId J fr j == renId J fr i) = some i := by
      rw [List.find?_eq_some_iff_getElem]
      refine ⟨by simp, i, by simpa using hi, by simp, fun j hj => ?_⟩
      simp only [List.getElem_range, Bool.not_eq_true', beq_eq_false_iff_ne, ne_eq]
      intro e
      have := hinj j i (by omega) hi e
      omega
    show (match (List.range n).find? (fun j => renId J fr j == renId J fr i) with | some i => _ | none => _) = _
    rw [this]
  have hold : ∀ id, (∀ i, i < n → renId J fr i ≠ id) → I'' id = if id ∈ dl then some .dead else I id := by
    intro id h
    have : (List.range n).find? (fun i => renId J fr i == id) = none := by
      rw [List.find?_eq_none]
      intro i hi
      simpa using h i (by simpa using hi)
    show (match (List.range n).find? (fun i => renId J fr i == id) with | some i => _ | none => _) = _
    rw [this]
  have hI'lt : ∀ i l, I' i = some l → i < n := by
    intro i l hi
    have := hH'.hp i
    rcases Nat.lt_or_ge i n with h | h
    · exact h
    · have e : ((ans.hp ++ ans.extra).map some).getD i none = none := by rw [List.getD_eq_getElem?_getD, List.getElem?_eq_none (by rw [List.length_map]; exact h)]; rfl
      rw [e] at this
      rw [show I' i = none from this] at hi; cases hi
  have hlsome : ∀ id ∈ lent, (I id).isSome = true := by rw [← hlent]; exact lent_some hargs
  have hdl : ∀ id, id ∈ dl → (∀ i, i < n → renId J fr i ≠ id) ∧ id ∈ lent ∧ flatAns ans = false := by
    intro id hid
    have hid' : id ∈ lent ∧ pos J id = none ∧ flatAns ans = false := by
      have : id ∈ (if flatAns ans then [] else lent.filter fun id => (pos J id).isNone) := hid
      split at this
      · cases this
      · rename_i hfl
        have h := List.mem_filter.1 this
        exact ⟨h.1, by simpa using h.2, by simpa using hfl⟩
    refine ⟨fun i hi e => ?_, hid'.1, hid'.2.2⟩
    rcases Nat.lt_or_ge i J.length with h1 | h1
    · rw [renId_lt h1] at e
      exact pos_none hid'.2.1 (by rw [← e]; exact List.getElem_mem h1)
    · rw [renId_ge h1] at e
      have hf0 := (hfree (i - J.length) (by omega)).1
      rw [e] at hf0
      have := hlsome id hid'.1
      rw [show I id = none from hR.free hf0] at this
      cases this
  have hdl2 : flatAns ans = false → ∀ id ∈ lent, (∀ i, i < n → renId J fr i ≠ id) → id ∈ dl := by
    intro hfl id hid h
    show id ∈ (if flatAns ans then [] else lent.filter fun id => (pos J id).isNone)
    rw [hfl]
    refine List.mem_filter.2 ⟨hid, ?_⟩
    cases hpos : pos J id with
    | none => rfl
    | some i =>
      have hJ := pos_get hpos
      have hlt := (List.getElem?_eq_some_iff.1 hJ).1
      exact absurd (by rw [renId_lt hlt]; exact (List.getElem?_eq_some_iff.1 hJ).2) (h i (by omega))
  -- what is own then
  have hown2 : ∀ b, Own F I'' b → (F b) ∨ (∃ i l, I' i = some l ∧ l.has b) ∨ (∃ id l, I id = some l ∧ l.has b ∧ (∀ i, i < n → renId J fr i ≠ id) ∧ id ∉ dl) := by
    intro b hb
    rcases hb with hb | ⟨id, l, hl, hb⟩
    · exact .inl hb
    · by_cases hex : ∃ i, i < n ∧ renId J fr i = id
      · obtain ⟨i, hi, rfl⟩ := hex
        rw [hnew i hi] at hl
        simp only [Option.map_eq_some_iff] at hl
        obtain ⟨l0, h0, rfl⟩ := hl
        exact .inr (.inl ⟨i, l0, h0, shift_has.1 hb⟩)
      · have hno : ∀ i, i < n → renId J fr i ≠ id := fun i hi e => hex ⟨i, hi, e⟩
        rw [hold id hno] at hl
        split at hl
        · injection hl with hl; subst hl; exact hb.elim
        · rename_i hd; exact .inr (.inr ⟨id, l, hl, hb, hno, hd⟩)
  have hJn : ∀ id, (∀ i, i < n → renId J fr i ≠ id) → id ∉ J := by
    intro id h hm
    obtain ⟨i, hi, e⟩ := List.getElem_of_mem hm
    exact h i (by omega) (by rw [renId_lt hi]; exact e)
  have hsub : (∀ b, Own F I'' b → Own F' I' b) ∨ flatAns ans = true := by
    cases hfl : flatAns ans with
    | true => exact .inr rfl
    | false =>
      refine .inl fun b hb => ?_
      rcases hown2 b hb with h | ⟨i, l, h1, h2⟩ | ⟨id, l, h1, h2, h3, h4⟩
      · exact .inl (.inl h)
      · exact .inr ⟨i, l, h1, h2⟩
      · exact .inl (.inr ⟨id, l, h1, h2, hJn id h3, fun hm => h4 (hdl2 hfl id hm h3)⟩)
  have hIr : ∀ i l, I' i = some l → I'' (renId J fr i) = some (shift (vers'.getD i 0) l) := by
    intro i l hi
    rw [hnew i (hI'lt i l hi), hi]; rfl
  have holdsize : ∀ b, b < w.heap.size → Own F I'' b → Own F I b := by
    intro b hb h
    rcases hown2 b h with h | ⟨i, l, h1, h2⟩ | ⟨id, l, h1, h2, _, _⟩
    · exact .inl h
    · rcases hplace i l b h1 h2 with ⟨j, l0, h3, h4⟩ | h3
      · obtain ⟨id, l1, _, h5, rfl⟩ := sel_some h3
        exact .inr ⟨id, l1, h5, reset_has.1 h4⟩
      · omega
    · exact .inr ⟨id, l, h1, h2⟩
  have hframe' : ∀ b, ¬ Own F I b → b < w.heap.size → w'.heap[b]? = w.heap[b]? := by
    intro b hb hlt
    refine hframe b hlt fun i l hi hh => hb ?_
    obtain ⟨id, l1, _, h5, rfl⟩ := sel_some hi
    exact .inr ⟨id, l1, h5, reset_has.1 hh⟩
  have hle : ImLe I I'' := by
    intro id l hl
    by_cases hex : ∃ i, i < n ∧ renId J fr i = id
    · obtain ⟨i, hi, rfl⟩ := hex
      rcases Nat.lt_or_ge i J.length with h1 | h1
      · obtain ⟨l0, h0, hd, hv, _⟩ := hJsome i h1
        rw [renId_lt h1] at hl
        rw [h0] at hl; injection hl with hl; subst hl
        have hs : sel I J i = some (reset l0) := by unfold sel; rw [List.getElem?_eq_getElem h1]; simp [h0]
        have hk := hkeep i (by rw [hbl]; exact h1)
        cases l0 with
        | box b => exact ⟨.box b, by rw [hIr i _ (hk.1 b hs)]; rfl, .inl rfl⟩
        | bld b v =>
          obtain ⟨v', hv'⟩ := hk.2.1 b v hs
          exact ⟨.bld b v', by rw [hIr i _ hv']; rfl, .inr (.inr (.inr ⟨b, v, v', rfl, rfl⟩))⟩
        | row m t v =>
          obtain ⟨m', t', v', hv', hsame⟩ := hk.2.2 0 t v hs
          have hver0 : vers.getD i 0 = m + 1 := by rw [List.getD_eq_getElem?_getD, hv m t v rfl]; rfl
          have hver := hvs i
          rw [hver0] at hver
          cases hq : hasN ans.same i with
          | false =>
            rw [hq] at hver
            exact ⟨.row (m + 1 + m') t' v', by rw [hIr i _ hv', hver]; rfl, .inr (.inr (.inl ⟨m, _, t, t', v, v', rfl, rfl, by omega⟩))⟩
          | true =>
            rw [hq] at hver
            obtain ⟨rfl, rfl, h3⟩ := hsame hq
            obtain rfl := h3 rfl
            exact ⟨.row m t' v', by rw [hIr i _ hv', hver]; rfl, .inl rfl⟩
        | dead => exact absurd rfl hd
      · rw [renId_ge h1] at hl
        rw [show I (fr + (i - J.length)) = none from hR.free (hfree (i - J.length) (by omega)).1] at hl; cases hl
    · have hno : ∀ i, i < n → renId J fr i ≠ id := fun i hi e => hex ⟨i, hi, e⟩
      rw [hold id hno]
      split
      · exact ⟨.dead, rfl, .inr (.inl rfl)⟩
      · exact ⟨l, hl, .inl rfl⟩
  have hflat : flatAns ans = true → flatAV ans.res = true ∧ ∀ b ∈ ans.hp ++ ans.extra, flatBlk b = true := by
    intro h
    simp only [flatAns, Bool.and_eq_true, List.all_eq_true] at h
    exact ⟨h.1.1, fun b hb => (List.mem_append.1 hb).elim (h.1.2 b) (h.2 b)⟩
  have hkeyslt : ∀ i, i < n → renId J fr i < s.hp.length := by
    intro i hi
    rcases Nat.lt_or_ge i J.length with h1 | h1
    · rw [renId_lt h1]
      obtain ⟨_, _, _, _, b0, hb0⟩ := hJsome i h1
      rcases Nat.lt_or_ge J[i] s.hp.length with h | h
      · exact h
      · rw [List.getD_eq_getElem?_getD, List.getElem?_eq_none h] at hb0; cases hb0
    · rw [renId_ge h1]; exact (hfree (i - J.length) (by omega)).2
  refine hn I'' _ _ (fin_put (e := _) ?_ (renV_R hIr (hsub.imp id fun h => (hflat h).1) hres)) (by
    unfold givenP
    cases hg : ans.given with
    | none => trivial
    | some p => exact hgiven p hg)
  have hgetB : ∀ i (hi : i < n), ((ans.hp ++ ans.extra).map some).getD i none = some ((ans.hp ++ ans.extra)[i]) := by
    intro i hi
    rw [List.getD_eq_getElem?_getD, List.getElem?_map, List.getElem?_eq_getElem hi]; rfl
  have hplace'' : ∀ id l b, I'' id = some l → l.has b → (E b ∨ w0.heap.size ≤ b) ∧ b < w'.heap.size := by
    intro id l b hl hb
    by_cases hex : ∃ i, i < n ∧ renId J fr i = id
    · obtain ⟨i, hi, rfl⟩ := hex
      rw [hnew i hi] at hl
      simp only [Option.map_eq_some_iff] at hl
      obtain ⟨l0, h0, rfl⟩ := hl
      have hb := shift_has.1 hb
      refine ⟨?_, hH'.lt i l0 b h0 hb⟩
      rcases hplace i l0 b h0 hb with ⟨j, l1, h3, h4⟩ | h3
      · obtain ⟨id, l2, _, h5, rfl⟩ := sel_some h3
        exact (hR.place id l2 b h5 (reset_has.1 h4)).1
      · exact .inr (Nat.le_trans hR.size h3)
    · have hno : ∀ i, i < n → renId J fr i ≠ id := fun i hi e => hex ⟨i, hi, e⟩
      rw [hold id hno] at hl
      split at hl
      · injection hl with hl; subst hl; exact hb.elim
      · have := hR.place id l b hl hb
        exact ⟨this.1, Nat.lt_of_lt_of_le this.2 hsz⟩
  -- blocks of old numbers are none of the answer's
  have hcross : ∀ id l b i l', (∀ i, i < n → renId J fr i ≠ id) → I id = some l → l.has b → I' i = some l' → ¬ l'.has b := by
    intro id l b i l' hno hl hb hi hb'
    rcases hplace i l' b hi hb' with ⟨j, l1, h3, h4⟩ | h3
    · obtain ⟨id', l2, hJ, h5, rfl⟩ := sel_some h3
      have := hR.inj id id' l l2 b hl h5 hb (reset_has.1 h4)
      subst this
      exact hJn id hno (List.mem_of_getElem? hJ)
    · have := (hR.place id l b hl hb).2; omega
  refine ⟨hR.defers, hR.tm.mono fun _ _ h => h.mono hframe' holdsize hle, fun id => ?_, ?_, ?_, hplace'', hR.out, hos.trans hR.os, htape.trans hR.tape, hout.trans hR.output, Nat.le_trans hR.size hsz, ?_, hR.glob.mono hframe' holdsize⟩
  · show match (setAll s.hp (renBs J vers' fr 0 (ans.hp ++ ans.extra) ++ (if flatAns ans then [] else (lent.filter fun id => (pos J id).isNone).map fun id => (id, Blk.dead)))).getD id none with | some b => _ | none => _
    have hds : (if flatAns ans then [] else (lent.filter fun id => (pos J id).isNone).map fun id => (id, Blk.dead)) = deads dl := by
      show _ = deads (if flatAns ans then [] else lent.filter fun id => (pos J id).isNone)
      split <;> rfl
    rw [hds, setAll_append]
    by_cases hex : ∃ i, i < n ∧ renId J fr i = id
    · obtain ⟨i, hi, rfl⟩ := hex
      rw [setAll_deads_get (fun hm => (hdl _ hm).1 i hi rfl)]
      have hB := setAll_renBs (J := J) (vers := vers') (fr := fr) (bs := ans.hp ++ ans.extra) (i := 0) (hp := s.hp) i (ans.hp ++ ans.extra)[i] (List.getElem?_eq_getElem hi) (fun j j' _ h2 _ h4 h5 => hinj j j' (by rw [Nat.zero_add] at h2; exact h2) (by rw [Nat.zero_add] at h4; exact h4) h5) (by simpa using hkeyslt i hi)
      simp only [Nat.zero_add] at hB
      rw [hB]
      have hb := hH'.hp i
      rw [hgetB i hi] at hb
      obtain ⟨l0, h0, hb⟩ := hb
      exact ⟨_, hIr i l0 h0, renB_R hIr (hsub.imp id fun h => (hflat h).2 _ (List.getElem_mem hi)) hb⟩
    · have hno : ∀ i, i < n → renId J fr i ≠ id := fun i hi e => hex ⟨i, hi, e⟩
      rw [hold id hno]
      by_cases hd : id ∈ dl
      · rw [if_pos hd]
        have hget : (setAll (setAll s.hp (renBs J vers' fr 0 (ans.hp ++ ans.extra))) (deads dl)).getD id none = some .dead := by
          have hlt : id < (setAll s.hp (renBs J vers' fr 0 (ans.hp ++ ans.extra))).length := by
            rw [setAll_length]
            have := hlsome id (hdl id hd).2.1
            rcases Nat.lt_or_ge id s.hp.length with h | h
            · exact h
            · rw [show I id = none from hR.free (by rw [List.getD_eq_getElem?_getD, List.getElem?_eq_none h]; rfl)] at this; cases this
          exact setAll_deads_mem hd hlt
        rw [hget]
        exact ⟨.dead, rfl, rfl⟩
      · rw [if_neg hd, setAll_deads_get hd, setAll_other (fun p hp e => by
          obtain ⟨j, _, h2, h3⟩ := renBs_keys hp
          exact hno j (by rw [Nat.zero_add] at h2; exact h2) (by rw [← h3]; exact e))]
        have hh := hR.hp id
        generalize s.hp.getD id none = ob at hh
        cases ob with
        | none => exact hh
        | some b =>
          obtain ⟨l, hl, hb⟩ := hh
          refine ⟨l, hl, hb.mono hframe' holdsize hle fun g hg => hframe g (hR.place id l g hl hg).2 fun i l' hi hh => ?_⟩
          obtain ⟨id', l2, hJ, h5, rfl⟩ := sel_some hi
          have := hR.inj id id' l l2 g hl h5 hg (reset_has.1 hh)
          subst this
          exact hJn id hno (List.mem_of_getElem? hJ)
  · intro id id' l l' b hl hl' hb hb'
    by_cases hex : ∃ i, i < n ∧ renId J fr i = id <;> by_cases hex' : ∃ i, i < n ∧ renId J fr i = id'
    · obtain ⟨i, hi, rfl⟩ := hex
      obtain ⟨j, hj, rfl⟩ := hex'
      rw [hnew i hi] at hl
      rw [hnew j hj] at hl'
      simp only [Option.map_eq_some_iff] at hl hl'
      obtain ⟨l0, h0, rfl⟩ := hl
      obtain ⟨l0', h0', rfl⟩ := hl'
      rw [hH'.inj i j l0 l0' b h0 h0' (shift_has.1 hb) (shift_has.1 hb')]
    · obtain ⟨i, hi, rfl⟩ := hex
      have hno : ∀ i, i < n → renId J fr i ≠ id' := fun i hi e => hex' ⟨i, hi, e⟩
      rw [hnew i hi] at hl
      rw [hold id' hno] at hl'
      simp only [Option.map_eq_some_iff] at hl
      obtain ⟨l0, h0, rfl⟩ := hl
      split at hl'
      · injection hl' with hl'; subst hl'; exact hb'.elim
      · exact absurd (shift_has.1 hb) (hcross id' l' b i l0 hno hl' hb' h0)
    · obtain ⟨i, hi, rfl⟩ := hex'
      have hno : ∀ i, i < n → renId J fr i ≠ id := fun i hi e => hex ⟨i, hi, e⟩
      rw [hnew i hi] at hl'
      rw [hold id hno] at hl
      simp only [Option.map_eq_some_iff] at hl'
      obtain ⟨l0, h0, rfl⟩ := hl'
      split at hl
      · injection hl with hl; subst hl; exact hb.elim
      · exact absurd (shift_has.1 hb') (hcross id l b i l0 hno hl hb h0)
    · have hno : ∀ i, i < n → renId J fr i ≠ id := fun i hi e => hex ⟨i, hi, e⟩
      have hno' : ∀ i, i < n → renId J fr i ≠ id' := fun i hi e => hex' ⟨i, hi, e⟩
      rw [hold id hno] at hl
      rw [hold id' hno'] at hl'
      split at hl
      · injection hl with hl; subst hl; exact hb.elim
      · split at hl'
        · injection hl' with hl'; subst hl'; exact hb'.elim
        · exact hR.inj id id' l l' b hl hl' hb hb'
  · intro id l b hl hb hF
    by_cases hex : ∃ i, i < n ∧ renId J fr i = id
    · obtain ⟨i, hi, rfl⟩ := hex
      rw [hnew i hi] at hl
      simp only [Option.map_eq_some_iff] at hl
      obtain ⟨l0, h0, rfl⟩ := hl
      exact hH'.apart i l0 b h0 (shift_has.1 hb) (.inl hF)
    · have hno : ∀ i, i < n → renId J fr i ≠ id := fun i hi e => hex ⟨i, hi, e⟩
      rw [hold id hno] at hl
      split at hl
      · injection hl with hl; subst hl; exact hb.elim
      · exact hR.apart id l b hl hb hF
  · intro b hb hE
    refine (hframe b (Nat.lt_of_lt_of_le hb hR.size) fun i l hi hh => ?_).trans (hR.kept b hb hE)
    obtain ⟨id, l2, _, h5, rfl⟩ := sel_some hi
    rcases (hR.place id l2 b h5 (reset_has.1 hh)).1 with h | h
    · exact hE h
    · omega
end
end Go.Proofs.YtnhipiedjekkpaaGreatDoor.AX
end
section
namespace Go.Proofs.YtnhipiedjekkpaaGreatDoor.AX
open Go Go.RowKit

section
variable {cx : Cx} {w0 w : World} {E F : Nat → Prop} {I : Im} {s : St} {a : Act} {o : Oper} {next : Act → World → Prop} {Q : Exit → Act → World → Prop} {e : Eff} {l : List Nat} {fr : Nat}

theorem op_sound (ok : CxOK cx) (tok : TOK cx) (hR : Rel cx.tid w0 E F I s a w) (hf : Fresh s.hp fr) (hrun : (effOp cx o fr (evalA cx.tid.glob s)).run s.hp = some (e, l)) (hp : preP e)
    (hn : ∀ I' a' w', Rel cx.tid w0 E F I' (stepSt s o.dst e) a' w' → givenP e → next a' w') : o.wp cx.P a w next Q := by
  have bad : (effOp cx o fr (evalA cx.tid.glob s)) = .fail → o.wp cx.P a w next Q := fun h => by rw [h] at hrun; exact (run_fail hrun).elim
  cases ho : o.op with
  | move x => exact op_move x (.inl ho) hR hrun hn
  | assign x => exact op_move x (.inr ho) hR hrun hn
  | pick c x y => exact op_pick c x y ho hR hrun hn
  | alloc el => exact op_alloc ok el ho hR hf hrun hn
  | box el x => exact op_box el x ho hR hf hrun hn
  | build t ps => exact op_build t ps ho hR hrun hn
  | buildSlice t n ps => exact op_buildSlice ok t n ps ho hR hf hrun hn
  | load t x => exact op_load t x ho hR hrun hn
  | store t x y => exact op_store t x y ho hR hrun hn
  | nilCheck x => exact op_nilCheck x ho hR hrun hn
  | binOp op t x y ty => exact op_binOp ok op t x y ty ho hR hrun hp hn
  | unOp op t x => exact op_unOp op t x ho hR hrun hn
  | convert src dst x => exact op_convert src dst x ho hR hrun hp hn
  | makeFunc fn first caps => exact op_makeFunc fn first caps ho hR hrun hn
  | makeSlice t x c => exact op_makeSlice ok t x c ho hR hf hrun hp hn
  | slice t x lo hi mx => exact op_slice ok t x lo hi mx ho hR hrun hp hn
  | fieldAddr t x f => exact op_fieldAddr t x f ho hR hrun hn
  | field t x f => exact op_field t x f ho hR hrun hn
  | indexAddr t x i => exact op_indexAddr ok t x i ho hR hrun hp hn
  | index t x i => exact op_index t x i ho hR hrun hp hn
  | extract t i => exact op_extract t i ho hR hrun hn
  | call c =>
    simp only [effOp, ho] at hrun
    split at hrun
    · rename_i b hb
      exact op_builtin ok c b ho hb hR hf hrun hp hn
    · rename_i f hc
      split at hrun
      · rename_i g caps hg
        exact op_call tok c f g caps ho hc hg hR hf hrun hp hn
      · exact (run_fail hrun).elim
    · exact (run_fail hrun).elim
  | _ => exact bad (by simp only [effOp, ho])

theorem setC_eq {R : Sort _} {α : Type} (x : α) : ∀ (l : List α) (n : Nat) (k : List α → R), setC l n x k = k (l.set n x)
  | [], n, k => by cases n <;> rfl
  | _ :: l, 0, k => rfl
  | b :: l, n + 1, k => by simp only [setC]; rw [setC_eq]; rfl
theorem fcA_eq {R : Sort _} (x : AV) (k : AV → R) : fcA x k = k x := by cases x <;> rfl
theorem fcL_eq {R : Sort _} : ∀ (l : List AV) (k : List AV → R), fcL l k = k l
  | [], k => rfl
  | x :: l, k => by simp only [fcL, fcA_eq, fcL_eq]
theorem fcT_eq {R : Sort _} : ∀ (l : List AV) (k : List AV → R), fcT l k = k l
  | [], k => rfl
  | x :: l, k => by
    have := fcT_eq l (R := R)
    cases x <;> simp only [fcT, fcA_eq, fcL_eq, this]
theorem fcV_eq {R : Sort _} (x : AV) (k : AV → R) : fcV x k = k x := by
  cases x <;> simp only [fcV, fcA_eq, fcL_eq, fcT_eq]
theorem fcB_eq {R : Sort _} (b : Blk) (k : Blk → R) : fcB b k = k b := by cases b <;> simp only [fcB, fcL_eq]
theorem fcBs_eq {R : Sort _} : ∀ (l : List Blk) (k : List Blk → R), fcBs l k = k l
  | [], k => rfl
  | x :: l, k => by simp only [fcBs, fcB_eq, fcBs_eq]
theorem setsC_eq {R : Sort _} : ∀ (l : List (Nat × Blk)) (hp : List (Option Blk)) (k : List (Option Blk) → R), setsC hp l k = k (setAll hp l)
  | [], hp, k => rfl
  | (id, b) :: l, hp, k => by simp only [setsC, fcB_eq, setC_eq, setsC_eq, setAll]
theorem putC_eq {R : Sort _} (tm : List AV) (d : Option Tmp) (v : AV) (k : List AV → R) : putC tm d v k = k (putL' tm d v) := by
  cases d <;> simp only [putC, fcV_eq, setC_eq, putL']
theorem appC_eq {R : Sort _} {α : Type} : ∀ (l m : List α) (k : List α → R), appC l m k = k (l ++ m)
  | [], m, k => rfl
  | x :: l, m, k => by simp only [appC, appC_eq]; rfl
theorem nones_eq {α : Type} : ∀ n, (nones n : List (Option α)) = List.replicate n none
  | 0 => rfl
  | n + 1 => by simp only [nones, nones_eq n]; rfl

theorem fcN_eq {R : Sort _} (n : Nat) (k : Nat → R) : fcN n k = k n := by cases n <;> rfl
def effP (inf : Option (List OI)) (nx i : Nat) (o : Oper) (K : St → Gs → Prop) (s : St) (g : Gs) (e : Eff) (asked : List Nat) : Prop := okO inf nx i e asked = true ∧ preP e ∧ K (stepSt s o.dst e) (g.set i ⟨e.given, bitsL asked, bitsL (e.sets.map (·.1))⟩)
theorem doOp_iff {inf : Option (List OI)} {nx i : Nat} {K : St → Gs → Prop} {g : Gs} : doOp cx inf nx i o K s g ↔ ∃ e asked, (effOp cx o (nx + 4 * i) (evalA cx.tid.glob s)).run s.hp = some (e, asked) ∧ effP inf nx i o K s g e asked := by
  unfold doOp
  split
  · rename_i e asked h
    have key : (match okO inf nx i e asked with
        | true => RqO e.pre (putC s.tm o.dst e.dst fun tm => setsC s.hp e.sets fun hp => fcN (bitsL asked) fun na => fcN (bitsL (e.sets.map (·.1))) fun ns => setC g i ⟨e.given, na, ns⟩ fun g => K ⟨tm, hp⟩ g)
        | false => False) ↔ effP inf nx i o K s g e asked := by
      unfold effP preP
      simp only [putC_eq, setsC_eq, setC_eq, fcN_eq]
      cases okO inf nx i e asked
      · simp
      · cases hpre : e.pre with
        | none => simp [RqO, stepSt]
        | some p => simp only [RqO, true_and, stepSt]; exact ⟨fun h => ⟨h.it, h.on⟩, fun h => ⟨h.1, h.2⟩⟩
    constructor
    · intro hk; exact ⟨e, asked, h, key.1 hk⟩
    · rintro ⟨e', asked', h', hk⟩
      rw [h] at h'
      injection h' with h'
      injection h' with h1 h2
      subst h1; subst h2
      exact key.2 hk
  · rename_i h
    constructor
    · intro hf; exact hf.elim
    · rintro ⟨e', asked', h', _⟩; rw [h] at h'; cases h'
theorem skipOp_iff {K : St → Gs → Prop} {g : Gs} : skipOp o K s g ↔ K ⟨putL' s.tm o.dst (.tup []), s.hp⟩ g := by unfold skipOp; rw [putC_eq]

end

def gval (tm : List AV) (d : Nat) : Option (Option Bool) :=
  match tm.getD d .any with
  | .lit b => some (some b)
  | .bool b => some (some b)
  | .tup [] => some none
  | _ => none
def refT (tm : List AV) (d : Nat) : List AV :=
  match tm.getD d .any with
  | .bool b => tm.set d (.lit b)
  | _ => tm
def gb (ob : Option Bool) (want : Bool) : Bool :=
  match ob with
  | some b => beqB b want
  | none => false
inductive Gd (ops : List Oper) (o : Oper) (s : St) : St → Bool → Prop where
  | free (h : o.guard = none) : Gd ops o s s true
  | slot (j : Nat) (want : Bool) (d : Nat) (ob : Option Bool) (h : o.guard = some (j, want)) (hd : (ops[j]?).bind (·.dst) = some d) (hv : gval s.tm d = some ob) : Gd ops o s ⟨refT s.tm d, s.hp⟩ (gb ob want)
theorem stepA_iff {cx : Cx} {ops : List Oper} {inf : Option (List OI)} {nx i : Nat} {o : Oper} {K : St → Gs → Prop} {s : St} {g : Gs} : stepA cx ops inf nx i o K s g ↔
    ∃ s' b, Gd ops o s s' b ∧ (if b = true then doOp cx inf nx i o K s' g else skipOp o K s' g) := by
  constructor
  · intro h
    unfold stepA at h
    split at h
    · rename_i hg; exact ⟨s, true, .free hg, h⟩
    · rename_i j want hg
      split at h
      · exact h.elim
      · rename_i d hd
        split at h
        · rename_i b hb
          have e1 : refT s.tm d = s.tm := by unfold refT; rw [hb]
          refine ⟨_, _, .slot j want d (some b) hg hd (by unfold gval; rw [hb]), ?_⟩
          rw [e1]
          unfold gb
          split at h <;> rename_i hbb <;> simp only [hbb] <;> simpa using h
        · rename_i b hb
          have e1 : refT s.tm d = s.tm.set d (.lit b) := by unfold refT; rw [hb]
          refine ⟨_, _, .slot j want d (some b) hg hd (by unfold gval; rw [hb]), ?_⟩
          rw [e1]
          unfold refC at h
          simp only [setC_eq] at h
          split at h <;> cases b <;> first | exact h.yes rfl | exact h.no rfl
        · rename_i hb
          have e1 : refT s.tm d = s.tm := by unfold refT; rw [hb]
          refine ⟨_, _, .slot j want d none hg hd (by unfold gval; rw [hb]), ?_⟩
          rw [e1]
          exact h
        · exact h.elim
  · rintro ⟨s', b, hG, h⟩
    unfold stepA
    cases hG with
    | free hg => rw [hg]; exact h
    | slot j want d ob hg hd hv =>
      rw [hg]
      simp only [hd]
      unfold gval at hv
      split at hv
      · rename_i b hb
        injection hv with hv; subst hv
        have e1 : refT s.tm d = s.tm := by unfold refT; rw [hb]
        rw [e1] at h
        simp only [hb]
        unfold gb at h
        cases hbb : beqB b want <;> simp only [hbb] at h ⊢ <;> simpa using h
      · rename_i b hb
        injection hv with hv; subst hv
        have e1 : refT s.tm d = s.tm.set d (.lit b) := by unfold refT; rw [hb]
        rw [e1] at h
        simp only [hb]
        unfold refC
        simp only [setC_eq]
        cases want <;> cases b <;> simp only [gb, beqB] at h ⊢ <;> exact ⟨fun e => by first | exact absurd e (by decide) | simpa using h, fun e => by first | exact absurd e (by decide) | simpa using h⟩
      · rename_i hb
        injection hv with hv; subst hv
        have e1 : refT s.tm d = s.tm := by unfold refT; rw [hb]
        rw [e1] at h
        simp only [hb]
        exact h
      · cases hv
end Go.Proofs.YtnhipiedjekkpaaGreatDoor.AX
end
section
namespace Go.Proofs.YtnhipiedjekkpaaGreatDoor.AX
open Go Go.RowKit

theorem run_local {α : Type} {hp hp' : List (Option Blk)} : ∀ {x : Rd α} {a : α} {l : List Nat}, x.run hp = some (a, l) → (∀ id ∈ l, hp'.getD id none = hp.getD id none) → x.run hp' = some (a, l)
  | .ret a, _, _, h, _ => h
  | .ask id k, b, l, h, hl => by
    obtain ⟨l', h1, rfl⟩ := run_ask h
    simp only [Rd.run]
    rw [hl id (.head _), run_local h1 (fun i hi => hl i (.tail _ hi))]
  | .fail, _, _, h, _ => by cases h

theorem effOp_congr {cx : Cx} {o : Oper} {fr : Nat} {ev ev' : Operand → AV} (h : ∀ x ∈ o.op.operands.toList, ev x = ev' x) : effOp cx o fr ev = effOp cx o fr ev' := by
  have hm : ∀ (ps : Array (Nat × Operand)), (∀ x ∈ (ps.toList.map (·.2)), ev x = ev' x) → (ps.toList.map fun p => (p.1, ev p.2)) = (ps.toList.map fun p => (p.1, ev' p.2)) := by
    intro ps hps
    apply List.map_congr_left
    intro p hp
    rw [hps p.2 (List.mem_map.2 ⟨p, hp, rfl⟩)]
  have ho' : ∀ (x : Option Operand), (∀ y ∈ x.toArray.toList, ev y = ev' y) → x.map ev = x.map ev' := by
    intro x hx
    cases x with
    | none => rfl
    | some y => simp at hx; simp [hx]
  cases ho : o.op <;> simp only [ho, Op.operands] at h <;> simp only [effOp, ho]
  case move x => rw [h x (by simp)]
  case assign x => rw [h x (by simp)]
  case pick c a b => rw [h c (by simp), h a (by simp), h b (by simp)]
  case box t x => rw [h x (by simp)]
  case build t ps => rw [hm ps (by simpa using h)]
  case buildSlice t n ps => rw [hm ps (by simpa using h)]
  case load t x => rw [h x (by simp)]
  case store t x y => rw [h x (by simp), h y (by simp)]
  case nilCheck x => rw [h x (by simp)]
  case binOp op t x y ty => rw [h x (by simp), h y (by simp)]
  case unOp op t x => rw [h x (by simp)]
  case convert s d x => rw [h x (by simp)]
  case makeFunc fn first caps =>
    cases fn <;> try rfl
    have : caps.toList.map ev = caps.toList.map ev' := List.map_congr_left fun x hx => h x (by simp [hx])
    simp only [this]
  case makeSlice t x c => 
    cases x <;> try rfl
    rename_i t
    have := h (.tmp t) (by simp)
    simp only [this]
  case slice t x lo hi mx =>
    have e1 := h x (by simp)
    have e2 := ho' lo (fun y hy => h y (by simp at hy ⊢; simp [hy]))
    have e3 := ho' hi (fun y hy => h y (by simp at hy ⊢; simp [hy]))
    rw [e1, e2, e3]
    have e4 : ∀ q, ownCut (ev' x) lo hi = some q → ev q.2.2 = ev' q.2.2 := fun q hq => by
      unfold ownCut at hq
      split at hq
      · split at hq
        · rename_i hh
          injection hq with hq
          subst hq
          exact h hh (by simp)
        · cases hq
      · cases hq
    cases hq : ownCut (ev' x) lo hi with
    | none => rfl
    | some q =>
      have := e4 q hq
      obtain ⟨id, n, hh⟩ := q
      simp only at this
      simp only [this]
  case fieldAddr t x f => rw [h x (by simp)]
  case field t x f => rw [h x (by simp)]
  case indexAddr t x i => rw [h x (by simp), h i (by simp)]
  case index t x i => rw [h x (by simp), h i (by simp)]
  case extract t i => rw [h t (by simp)]
  case call c =>
    have e1 : c.args.toList.map ev = c.args.toList.map ev' := List.map_congr_left fun x hx => h x (by simp [Call.operands, hx])
    split
    · rw [e1]
    · rename_i f hf
      rw [h f (by simp [Call.operands, hf]), e1]
    · rfl

/-! ### Bits -/
theorem bit_test {m n : Nat} : (bit m).testBit n = decide (m = n) := by
  unfold bit; rw [Nat.one_shiftLeft, Nat.testBit_two_pow]
theorem bitsL_test {l : List Nat} {n : Nat} : (bitsL l).testBit n = true ↔ n ∈ l := by
  induction l with
  | nil => simp [bitsL]
  | cons m l ih => simp only [bitsL, Nat.testBit_or, Bool.or_eq_true, ih, bit_test, decide_eq_true_eq, List.mem_cons]; exact ⟨fun h => h.imp Eq.symm id, fun h => h.imp Eq.symm id⟩
theorem bitO_test {o : Option Nat} {n : Nat} : (bitO o).testBit n = true ↔ o = some n := by
  cases o with
  | none => simp [bitO]
  | some m => simp only [bitO, Nat.one_shiftLeft, Nat.testBit_two_pow, decide_eq_true_eq, Option.some.injEq]
theorem and_zero {x y : Nat} (h : Nat.beq (x &&& y) 0 = true) {n : Nat} (hx : x.testBit n = true) (hy : y.testBit n = true) : False := by
  have h := Nat.eq_of_beq_eq_true h
  have : (x &&& y).testBit n = true := by rw [Nat.testBit_and, hx, hy]; rfl
  rw [h] at this
  simp at this
theorem tmpsIn_mem {l : List Operand} {t : Nat} : .tmp t ∈ l → t ∈ tmpsIn l := by
  induction l with
  | nil => intro h; cases h
  | cons x l ih =>
    intro h
    cases h with
    | head => exact .head _
    | tail _ h => cases x <;> simp only [tmpsIn] <;> first | exact .tail _ (ih h) | exact ih h

structure Apart (ops : List Oper) (x y : Oper) : Prop where
  d1 : ∀ d, x.dst = some d → .tmp d ∉ y.op.operands.toList
  d2 : ∀ d, x.dst = some d → gSlotOf ops y ≠ some d
  d3 : ∀ d, x.dst = some d → y.dst ≠ some d
  d4 : ∀ d, y.dst = some d → .tmp d ∉ x.op.operands.toList
  d5 : ∀ d, y.dst = some d → gSlotOf ops x ≠ some d
  g1 : ∀ d, gSlotOf ops x = some d → .tmp d ∉ y.op.operands.toList
  g2 : ∀ d, gSlotOf ops y = some d → .tmp d ∉ x.op.operands.toList
theorem apartB_spec {ops : List Oper} {acc acc' : List OI} {x y : Oper} (h : apartB (infoOf ops acc x) (infoOf ops acc' y) = true) : Apart ops x y := by
  unfold apartB infoOf at h
  simp only [Bool.and_eq_true] at h
  obtain ⟨⟨⟨h1, h2⟩, h3⟩, h4⟩ := h
  refine ⟨fun d hd hm => ?_, fun d hd hm => ?_, fun d hd hm => ?_, fun d hd hm => ?_, fun d hd hm => ?_, fun d hd hm => ?_, fun d hd hm => ?_⟩
  · exact and_zero h1 (bitO_test.2 hd) (by simp only [Nat.testBit_or, bitsL_test.2 (tmpsIn_mem hm), Bool.true_or])
  · exact and_zero h1 (bitO_test.2 hd) (by simp only [Nat.testBit_or, bitO_test.2 hm, Bool.true_or, Bool.or_true])
  · exact and_zero h1 (bitO_test.2 hd) (by simp only [Nat.testBit_or, bitO_test.2 hm, Bool.or_true])
  · exact and_zero h2 (bitO_test.2 hd) (by simp only [Nat.testBit_or, bitsL_test.2 (tmpsIn_mem hm), Bool.true_or])
  · exact and_zero h2 (bitO_test.2 hd) (by simp only [Nat.testBit_or, bitO_test.2 hm, Bool.or_true])
  · exact and_zero h3 (bitO_test.2 hd) (bitsL_test.2 (tmpsIn_mem hm))
  · exact and_zero h4 (bitO_test.2 hd) (bitsL_test.2 (tmpsIn_mem hm))
theorem Apart.symm {ops : List Oper} {x y : Oper} (h : Apart ops x y) : Apart ops y x := ⟨h.d4, h.d5, fun d h1 h2 => h.d3 d h2 h1, h.d1, h.d2, h.g2, h.g1⟩

/-! ### Slots -/
def litOf : AV → AV
  | .bool b => .lit b
  | x => x
theorem getD_set' (tm : List AV) (k : Nat) (v : AV) (t : Nat) : (tm.set k v).getD t .any = if k = t ∧ k < tm.length then v else tm.getD t .any := by
  simp only [List.getD_eq_getElem?_getD, List.getElem?_set]
  by_cases h : k = t
  · subst h
    by_cases h2 : k < tm.length
    · simp [h2]
    · simp [h2]
  · simp [h]
theorem getD_lt {tm : List AV} {d : Nat} (h : tm.getD d .any ≠ .any) : d < tm.length := by
  rcases Nat.lt_or_ge d tm.length with h' | h'
  · exact h'
  · rw [List.getD_eq_getElem?_getD, List.getElem?_eq_none h'] at h; exact absurd rfl h
theorem getD_refT (tm : List AV) (d t : Nat) : (refT tm d).getD t .any = if t = d then litOf (tm.getD d .any) else tm.getD t .any := by
  unfold refT
  split
  · rename_i b hb
    rw [getD_set', hb]
    have hlt : d < tm.length := getD_lt (by rw [hb]; exact fun h => nomatch h)
    by_cases h : t = d
    · subst h; rw [if_pos ⟨rfl, hlt⟩, if_pos rfl]; rfl
    · rw [if_neg (fun e => h e.1.symm), if_neg h]
  · rename_i hb
    by_cases h : t = d
    · subst h
      rw [if_pos rfl]
      cases hx : tm.getD t .any <;> first | rfl | exact absurd hx (hb _)
    · rw [if_neg h]
theorem length_refT (tm : List AV) (d : Nat) : (refT tm d).length = tm.length := by unfold refT; split <;> simp
theorem list_ext {a b : List AV} (hl : a.length = b.length) (h : ∀ t, a.getD t .any = b.getD t .any) : a = b := by
  apply List.ext_getElem hl
  intro t h1 h2
  have := h t
  rw [List.getD_eq_getElem?_getD, List.getD_eq_getElem?_getD, List.getElem?_eq_getElem h1, List.getElem?_eq_getElem h2] at this
  simpa using this
def refO (tm : List AV) : Option Nat → List AV
  | some d => refT tm d
  | none => tm
theorem getD_refO (tm : List AV) (o : Option Nat) (t : Nat) : (refO tm o).getD t .any = if o = some t then litOf (tm.getD t .any) else tm.getD t .any := by
  cases o with
  | none => simp [refO]
  | some d =>
    simp only [refO, getD_refT, Option.some.injEq]
    by_cases h : t = d
    · subst h; simp
    · rw [if_neg h, if_neg (fun e => h e.symm)]
theorem getD_putL' (tm : List AV) (o : Option Nat) (v : AV) (t : Nat) : (putL' tm o v).getD t .any = if o = some t ∧ t < tm.length then v else tm.getD t .any := by
  cases o with
  | none => simp [putL']
  | some d =>
    simp only [putL', getD_set', Option.some.injEq]
    by_cases h : d = t
    · subst h; rfl
    · rw [if_neg (fun e => h e.1), if_neg (fun e => h e.1)]
theorem length_refO (tm : List AV) (o : Option Nat) : (refO tm o).length = tm.length := by cases o <;> simp [refO, length_refT]
theorem length_putL' (tm : List AV) (o : Option Nat) (v : AV) : (putL' tm o v).length = tm.length := by cases o <;> simp [putL']
theorem gval_congr {tm tm' : List AV} {d : Nat} (h : tm'.getD d .any = tm.getD d .any ∨ tm'.getD d .any = litOf (tm.getD d .any)) : gval tm' d = gval tm d := by
  unfold gval
  rcases h with h | h <;> rw [h]
  cases tm.getD d .any <;> rfl
theorem slots_comm (tm : List AV) {gi gj di dj : Option Nat} (vi vj : AV) (h1 : ∀ d, di = some d → gj ≠ some d) (h2 : ∀ d, di = some d → dj ≠ some d) (h3 : ∀ d, dj = some d → gi ≠ some d) :
    putL' (refO (putL' (refO tm gj) dj vj) gi) di vi = putL' (refO (putL' (refO tm gi) di vi) gj) dj vj := by
  refine list_ext (by simp only [length_putL', length_refO]) fun t => ?_
  simp only [getD_putL', getD_refO, length_putL', length_refO]
  by_cases a1 : di = some t
  · have b1 := h1 t a1
    have b2 := h2 t a1
    simp only [a1, b1, b2, true_and, false_and, if_false]
  · by_cases a2 : dj = some t
    · have b3 := h3 t a2
      simp only [a1, a2, b3, true_and, false_and, if_false]
    · simp only [a1, a2, false_and, if_false]
      by_cases a3 : gi = some t <;> by_cases a4 : gj = some t <;> simp only [a3, a4, if_true, if_false]

theorem Gd.shape {ops : List Oper} {o : Oper} {s s' : St} {b : Bool} (h : Gd ops o s s' b) : s' = ⟨refO s.tm (gSlotOf ops o), s.hp⟩ := by
  cases h with
  | free hg => unfold gSlotOf; rw [hg]; rfl
  | slot j want d ob hg hd hv => unfold gSlotOf; rw [hg]; simp only [hd, refO]
theorem Gd.again {ops : List Oper} {o : Oper} {s s' : St} {b : Bool} (h : Gd ops o s s' b) {t : St} (ht : ∀ d, gSlotOf ops o = some d → gval t.tm d = gval s.tm d) : Gd ops o t ⟨refO t.tm (gSlotOf ops o), t.hp⟩ b := by
  cases h with
  | free hg => have e : gSlotOf ops o = none := by unfold gSlotOf; rw [hg]
               rw [e]; exact .free hg
  | slot j want d ob hg hd hv =>
    have e : gSlotOf ops o = some d := by unfold gSlotOf; rw [hg]; exact hd
    rw [e]
    exact .slot j want d ob hg hd (by rw [ht d e]; exact hv)

def Does (cx : Cx) (inf : Option (List OI)) (nx i : Nat) (o : Oper) (b : Bool) (s : St) (v : AV) (sets : List (Nat × Blk)) (asked : List Nat) (gv : Option Ge) : Prop :=
  if b = true then ∃ e, (effOp cx o (nx + 4 * i) (evalA cx.tid.glob s)).run s.hp = some (e, asked) ∧ okO inf nx i e asked = true ∧ preP e ∧ v = e.dst ∧ sets = e.sets ∧ gv = some ⟨e.given, bitsL asked, bitsL (e.sets.map (·.1))⟩
  else v = .tup [] ∧ sets = [] ∧ asked = [] ∧ gv = none
def gput (g : Gs) (i : Nat) : Option Ge → Gs
  | some x => g.set i x
  | none => g
theorem does_iff {cx : Cx} {inf : Option (List OI)} {nx i : Nat} {o : Oper} {b : Bool} {K : St → Gs → Prop} {s : St} {g : Gs} : (if b = true then doOp cx inf nx i o K s g else skipOp o K s g) ↔
    ∃ v sets asked gv, Does cx inf nx i o b s v sets asked gv ∧ K ⟨putL' s.tm o.dst v, setAll s.hp sets⟩ (gput g i gv) := by
  cases b with
  | true =>
    simp only [if_true, doOp_iff, effP, Does]
    constructor
    · rintro ⟨e, asked, h1, h2, h3, h4⟩
      exact ⟨_, _, asked, _, ⟨e, h1, h2, h3, rfl, rfl, rfl⟩, h4⟩
    · rintro ⟨v, sets, asked, gv, ⟨e, h1, h2, h3, rfl, rfl, rfl⟩, h4⟩
      exact ⟨e, asked, h1, h2, h3, h4⟩
  | false =>
    simp only [Bool.false_eq_true, if_false, skipOp_iff, Does]
    constructor
    · intro h; exact ⟨_, _, _, _, ⟨rfl, rfl, rfl, rfl⟩, h⟩
    · rintro ⟨v, sets, asked, gv, ⟨rfl, rfl, rfl, rfl⟩, h⟩; exact h
theorem Does.again {cx : Cx} {inf : Option (List OI)} {nx i : Nat} {o : Oper} {b : Bool} {s t : St} {v : AV} {sets : List (Nat × Blk)} {asked : List Nat} {gv : Option Ge} (h : Does cx inf nx i o b s v sets asked gv)
    (h1 : ∀ x, .tmp x ∈ o.op.operands.toList → t.tm.getD x .any = s.tm.getD x .any) (h2 : ∀ id ∈ asked, t.hp.getD id none = s.hp.getD id none) : Does cx inf nx i o b t v sets asked gv := by
  cases b with
  | true =>
    simp only [Does, if_true] at h ⊢
    obtain ⟨e, h3, h4⟩ := h
    refine ⟨e, ?_, h4⟩
    have : effOp cx o (nx + 4 * i) (evalA cx.tid.glob t) = effOp cx o (nx + 4 * i) (evalA cx.tid.glob s) := effOp_congr fun x hx => by
      cases x with
      | tmp d => exact h1 d hx
      | _ => rfl
    rw [this]
    exact run_local h3 h2
  | false =>
    simp only [Does, Bool.false_eq_true, if_false] at h ⊢
    exact h

theorem sepB_spec {p q : Option Prop} {ai aj : List Nat} {si sj : List (Nat × Blk)} (h : sepB ⟨p, bitsL ai, bitsL (si.map (·.1))⟩ ⟨q, bitsL aj, bitsL (sj.map (·.1))⟩ = true) : (∀ p ∈ si, p.1 ∉ aj ∧ ∀ q ∈ sj, p.1 ≠ q.1) ∧ (∀ q ∈ sj, q.1 ∉ ai) := by
  unfold sepB at h
  simp only [Bool.and_eq_true] at h
  refine ⟨fun p hp => ⟨fun hm => ?_, fun q hq e => ?_⟩, fun q hq hm => ?_⟩
  · exact and_zero h.1 (bitsL_test.2 (List.mem_map.2 ⟨p, hp, rfl⟩)) (by rw [Nat.testBit_or, bitsL_test.2 hm, Bool.true_or])
  · exact and_zero h.1 (bitsL_test.2 (List.mem_map.2 ⟨p, hp, rfl⟩)) (by rw [Nat.testBit_or, e, bitsL_test.2 (List.mem_map.2 ⟨q, hq, rfl⟩), Bool.or_true])
  · exact and_zero h.2 (bitsL_test.2 (List.mem_map.2 ⟨q, hq, rfl⟩)) (bitsL_test.2 hm)
theorem setAll_comm {hp : List (Option Blk)} {l m : List (Nat × Blk)} (h : ∀ p ∈ l, ∀ q ∈ m, p.1 ≠ q.1) : setAll (setAll hp l) m = setAll (setAll hp m) l := by
  induction l generalizing hp with
  | nil => rfl
  | cons p l ih =>
    obtain ⟨id, b⟩ := p
    simp only [setAll]
    rw [ih (fun p hp q hq => h p (.tail _ hp) q hq)]
    congr 1
    have h' := h (id, b) (.head _)
    clear ih h
    induction m generalizing hp with
    | nil => rfl
    | cons q m ih =>
      obtain ⟨k, c⟩ := q
      simp only [setAll]
      rw [List.set_comm _ _ (h' (k, c) (.head _))]
      exact ih (fun q hq => h' q (.tail _ hq))

theorem stepA_comm {cx : Cx} {ops : List Oper} {inf : Option (List OI)} {nx i j : Nat} {oi oj : Oper} {K : St → Gs → Prop} {s : St} {g : Gs} (hij : i ≠ j) (hap : Apart ops oi oj) (hi : i < g.length) (hj : j < g.length) (hd : ∀ s' g', K s' g' → ∀ x y, g'[i]? = some x → g'[j]? = some y → sepB x y = true)
    (h : stepA cx ops inf nx i oi (fun s g => stepA cx ops inf nx j oj K s g) s g) : stepA cx ops inf nx j oj (fun s g => stepA cx ops inf nx i oi K s g) s g := by
  obtain ⟨s1, b1, G1, h⟩ := stepA_iff.1 h
  obtain ⟨vi, setsi, aski, gvi, D1, h⟩ := does_iff.1 h
  obtain ⟨s3, b2, G2, h⟩ := stepA_iff.1 h
  obtain ⟨vj, setsj, askj, gvj, D2, h⟩ := does_iff.1 h
  have e1 := G1.shape
  have e2 := G2.shape
  subst e1; subst e2
  have hdis : (∀ p ∈ setsi, p.1 ∉ askj ∧ ∀ q ∈ setsj, p.1 ≠ q.1) ∧ (∀ q ∈ setsj, q.1 ∉ aski) := by
    have hK := hd _ _ h
    unfold Does at D1 D2
    split at D1
    · obtain ⟨ei, _, o1, _, _, rfl, rfl⟩ := D1
      split at D2
      · obtain ⟨ej, _, o2, _, _, rfl, rfl⟩ := D2
        exact sepB_spec (hK _ _ (by simp only [gput]; rw [List.getElem?_set_ne (Ne.symm hij), List.getElem?_set_self hi]) (by simp only [gput]; rw [List.getElem?_set_self (by rw [List.length_set]; exact hj)]))
      · obtain ⟨_, rfl, rfl, _⟩ := D2
        exact ⟨fun p _ => ⟨fun h => (nomatch h), fun q h => (nomatch h)⟩, fun q h => (nomatch h)⟩
    · obtain ⟨_, rfl, rfl, _⟩ := D1
      exact ⟨fun p h => (nomatch h), fun q _ h => (nomatch h)⟩
  refine stepA_iff.2 ⟨_, b2, G2.again (t := s) (fun d hdj => ?_), does_iff.2 ⟨vj, setsj, askj, gvj, D2.again (fun x hx => ?_) (fun id hid => ?_), ?_⟩⟩
  · refine (gval_congr ?_).symm
    simp only [getD_putL', getD_refO]
    rw [if_neg (fun h => hap.d2 d h.1 hdj)]
    by_cases e : gSlotOf ops oi = some d
    · rw [if_pos e]; exact .inr rfl
    · rw [if_neg e]; exact .inl rfl
  · simp only [getD_putL', getD_refO]
    have n1 : ¬ (oi.dst = some x) := fun h => hap.d1 x h hx
    have n2 : ¬ (gSlotOf ops oi = some x) := fun h => hap.g1 x h hx
    simp only [n1, n2, false_and, if_false]
  · exact (setAll_other fun p hp e => (hdis.1 p hp).1 (e ▸ hid)).symm
  · refine stepA_iff.2 ⟨_, b1, G1.again (fun d hdi => ?_), does_iff.2 ⟨vi, setsi, aski, gvi, D1.again (fun x hx => ?_) (fun id hid => ?_), ?_⟩⟩
    · refine gval_congr ?_
      simp only [getD_putL', getD_refO]
      rw [if_neg (fun h => hap.d5 d h.1 hdi)]
      by_cases e : gSlotOf ops oj = some d
      · rw [if_pos e]; exact .inr rfl
      · rw [if_neg e]; exact .inl rfl
    · simp only [getD_putL', getD_refO]
      have n1 : ¬ (oj.dst = some x) := fun h => hap.d4 x h hx
      have n2 : ¬ (gSlotOf ops oj = some x) := fun h => hap.g2 x h hx
      simp only [n1, n2, false_and, if_false]
    · exact setAll_other fun p hp e => hdis.2 p hp (e ▸ hid)
    · have hs := slots_comm s.tm (gi := gSlotOf ops oi) (gj := gSlotOf ops oj) vi vj hap.d2 hap.d3 hap.d5
      have hg : gput (gput g j gvj) i gvi = gput (gput g i gvi) j gvj := by
        cases gvi <;> cases gvj <;> simp only [gput]
        exact (List.set_comm _ _ hij).symm
      simp only at h ⊢
      rw [hs, hg, setAll_comm (fun q hq p hp => ((hdis.1 p hp).2 q hq).symm)]
      exact h
end Go.Proofs.YtnhipiedjekkpaaGreatDoor.AX
end
section
namespace Go.Proofs.YtnhipiedjekkpaaGreatDoor.AX
open Go Go.RowKit

theorem allFrom_spec {f : Nat → OI → Bool} : ∀ {l : List OI} {k : Nat}, allFrom f k l = true → ∀ j x, l[j]? = some x → f (k + j) x = true
  | [], _, _, j, x, h => by simp at h
  | y :: l, k, hh, j, x, h => by
    simp only [allFrom] at hh
    split at hh
    · rename_i hy
      cases j with
      | zero => simp at h; subst h; exact hy
      | succ j =>
        have := allFrom_spec hh j x (by simpa using h)
        rw [Nat.add_right_comm] at this
        exact this
    · cases hh
theorem allN_spec {f : Nat → Bool} : ∀ {l : List Nat}, allN f l = true → ∀ n ∈ l, f n = true
  | m :: l, hh, n, h => by
    simp only [allN] at hh
    split at hh
    · rename_i hm
      cases h with
      | head => exact hm
      | tail _ h => exact allN_spec hh n h
    · cases hh

theorem loose_symm {i j : Nat} {x y : OI} (h : loose i x j y = true) : loose j y i x = true := by
  unfold loose at *
  simp only [Bool.and_eq_true, Bool.not_eq_true'] at *
  obtain ⟨⟨h1, h2⟩, h3⟩ := h
  refine ⟨⟨?_, h3⟩, h2⟩
  cases e : Nat.beq j i with
  | false => rfl
  | true => rw [Nat.eq_of_beq_eq_true e] at h1; rw [Nat.beq_refl] at h1; cases h1
theorem loose_of {i j : Nat} {x y : OI} (hij : i ≠ j) (h1 : y.a.testBit i = false) (h2 : x.a.testBit j = false) : loose i x j y = true := by
  unfold loose
  simp only [Bool.and_eq_true, Bool.not_eq_true']
  refine ⟨⟨?_, h1⟩, h2⟩
  cases e : Nat.beq i j with
  | false => rfl
  | true => exact absurd (Nat.eq_of_beq_eq_true e) hij

theorem apartAll_spec {inf : List OI} (h : apartAll inf = true) {i j : Nat} {x y : OI} (hi : inf[i]? = some x) (hj : inf[j]? = some y) (hij : i < j) (hl : loose i x j y = true) : apartB x y = true := by
  have h1 := allFrom_spec h i x hi
  simp only [Nat.zero_add] at h1
  split at h1
  · have h2 := allFrom_spec h1 j y hj
    simp only [Nat.zero_add] at h2
    split at h2
    · rename_i hle; exact absurd (Nat.le_of_ble_eq_true hle) (by omega)
    · rw [hl] at h2; simpa using h2
  · cases h1
theorem testBit_lt {a i m : Nat} (h : a < bit i) (hm : a.testBit m = true) : m < i := by
  rcases Nat.lt_or_ge m i with h' | h'
  · exact h'
  · have := Nat.testBit_lt_two_pow (x := a) (i := m) (Nat.lt_of_lt_of_le (by simpa [bit, Nat.one_shiftLeft] using h) (Nat.pow_le_pow_right (by decide) h'))
    rw [this] at hm; cases hm
theorem apartAll_low {inf : List OI} (h : apartAll inf = true) {i m : Nat} {x : OI} (hi : inf[i]? = some x) (hm : x.a.testBit m = true) : m < i := by
  have h1 := allFrom_spec h i x hi
  simp only [Nat.zero_add] at h1
  split at h1
  · rename_i hb; exact testBit_lt (Nat.le_of_ble_eq_true hb) hm
  · cases h1

theorem allFrom2_spec {f : Nat → OI → Ge → Bool} : ∀ {l : List OI} {g : Gs} {k : Nat}, allFrom2 f k l g = true → ∀ j x e, l[j]? = some x → g[j]? = some e → f (k + j) x e = true
  | [], _, _, _, j, x, e, h, _ => by simp at h
  | _ :: _, [], _, _, j, x, e, _, h => by simp at h
  | y :: l, d :: g, k, hh, j, x, e, h, h' => by
    simp only [allFrom2] at hh
    split at hh
    · rename_i hy
      cases j with
      | zero => simp at h h'; subst h; subst h'; exact hy
      | succ j =>
        have := allFrom2_spec hh j x e (by simpa using h) (by simpa using h')
        rw [Nat.add_right_comm] at this
        exact this
    · cases hh
theorem sepB_symm {x y : Ge} (h : sepB x y = true) : sepB y x = true := by
  unfold sepB at *
  simp only [Bool.and_eq_true] at *
  have h1 := Nat.eq_of_beq_eq_true h.1
  have h2 := Nat.eq_of_beq_eq_true h.2
  rw [Nat.and_or_distrib_left] at h1
  have h3 : x.s &&& y.a = 0 ∧ x.s &&& y.s = 0 := by
    constructor
    · apply Nat.eq_of_testBit_eq; intro k
      have := congrArg (·.testBit k) h1
      simp only [Nat.testBit_or, Nat.zero_testBit, Bool.or_eq_false_iff] at this
      rw [this.1, Nat.zero_testBit]
    · apply Nat.eq_of_testBit_eq; intro k
      have := congrArg (·.testBit k) h1
      simp only [Nat.testBit_or, Nat.zero_testBit, Bool.or_eq_false_iff] at this
      rw [this.2, Nat.zero_testBit]
  constructor
  · rw [Nat.and_or_distrib_left, h2, Nat.and_comm y.s x.s, h3.2]; rfl
  · rw [h3.1]; rfl
theorem chkG_spec {inf : List OI} {g : Gs} (h : chkG inf g = true) {i j : Nat} {x y : OI} {e d : Ge} (hi : inf[i]? = some x) (hj : inf[j]? = some y) (he : g[i]? = some e) (hd : g[j]? = some d) (hij : i < j) (hl : loose i x j y = true) : sepB e d = true := by
  have h1 := allFrom2_spec h i x e hi he
  simp only [Nat.zero_add] at h1
  have h2 := allFrom2_spec h1 j y d hj hd
  simp only [Nat.zero_add] at h2
  split at h2
  · rename_i hle; exact absurd (Nat.le_of_ble_eq_true hle) (by omega)
  · rw [hl] at h2; simpa using h2

structure InfOK (ops : List Oper) (inf : List OI) : Prop where
  len : inf.length = ops.length
  at_ : ∀ i o, ops[i]? = some o → inf[i]? = some (infoOf ops (inf.take i) o)
theorem infosC_eq {R : Sort _} {ops : List Oper} {k : List OI → R} : ∀ (l : List Oper) (acc : List OI), ∃ inf, infosC ops l acc k = k inf ∧ inf.length = acc.length + l.length ∧ inf.take acc.length = acc ∧
    ∀ i o, l[i]? = some o → inf[acc.length + i]? = some (infoOf ops (inf.take (acc.length + i)) o)
  | [], acc => ⟨acc, rfl, by simp, by simp, fun i o h => by simp at h⟩
  | o :: l, acc => by
    obtain ⟨inf, h1, h2, h3, h4⟩ := infosC_eq (ops := ops) (k := k) l (acc ++ [infoOf ops acc o])
    have h5 : inf.take acc.length = acc := by
      have := congrArg (List.take acc.length) h3
      rw [List.take_take] at this
      simpa using this
    refine ⟨inf, by simp only [infosC, appC_eq]; exact h1, by simp at h2 ⊢; omega, h5, fun i p h => ?_⟩
    cases i with
    | zero =>
      simp at h; subst h
      have h6 : inf[acc.length]? = (inf.take (acc.length + 1))[acc.length]? := by rw [List.getElem?_take]; simp
      simp at h3
      rw [Nat.add_zero, h6, h3, h5]
      simp
    | succ i =>
      have := h4 i p (by simpa using h)
      simp only [List.length_append, List.length_cons, List.length_nil] at this
      rw [show acc.length + (i + 1) = acc.length + 1 + i from by omega]
      simpa using this
theorem infC_drawn {ops : List Oper} {k : Option (List OI) → Prop} (h : infC true true ops False k) : ∃ inf, InfOK ops inf ∧ apartAll inf = true ∧ k (some inf) := by
  simp only [infC] at h
  obtain ⟨inf, h1, h2, h3, h4⟩ := infosC_eq (ops := ops) (k := _) ops []
  replace h := cast h1 h
  refine ⟨inf, ⟨by simpa using h2, fun i o hi => by simpa using h4 i o hi⟩, ?_⟩
  split at h
  · rename_i ha; exact ⟨ha, h⟩
  · exact h.elim

theorem ancOf_spec {acc : List OI} {es : List Edge} {m : Nat} : (ancOf acc es).testBit m = true ↔ ∃ e ∈ es, bindsB e = true ∧ (e.on = m ∨ ∃ y, acc[e.on]? = some y ∧ y.a.testBit m = true) := by
  induction es with
  | nil => simp [ancOf]
  | cons e es ih =>
    simp only [ancOf]
    cases hb : bindsB e with
    | false => simp only [ih]; simp [hb]
    | true =>
      simp only [Nat.testBit_or, Bool.or_eq_true, ih, bit_test, decide_eq_true_eq]
      constructor
      · rintro ((h | h) | ⟨e', he, h⟩)
        · exact ⟨e, .head _, hb, .inl h⟩
        · split at h
          · rename_i y hy; exact ⟨e, .head _, hb, .inr ⟨y, hy, h⟩⟩
          · simp at h
        · exact ⟨e', .tail _ he, h⟩
      · rintro ⟨e', he, hb', h⟩
        cases he with
        | head =>
          rcases h with h | ⟨y, hy, h⟩
          · exact .inl (.inl h)
          · refine .inl (.inr ?_); rw [hy]; exact h
        | tail _ he => exact .inr ⟨e', he, hb', h⟩
theorem bindsB_eq (e : Edge) : bindsB e = Region.binds .any e := by
  unfold bindsB Region.binds; cases e.ground <;> rfl

def runAt (cx : Cx) (ops : List Oper) (inf : Option (List OI)) (nx : Nat) (K : St → Gs → Prop) : List Nat → St → Gs → Prop
  | [], s, g => K s g
  | i :: l, s, g => match ops[i]? with
    | none => runAt cx ops inf nx K l s g
    | some o => stepA cx ops inf nx i o (runAt cx ops inf nx K l) s g
theorem runL_runAt {cx : Cx} {ops : List Oper} {inf : Option (List OI)} {nx : Nat} {K : St → Gs → Prop} : ∀ (l : List Oper) (i : Nat), (∀ j, l[j]? = ops[i + j]?) → runL cx ops inf nx K l i = runAt cx ops inf nx K (List.range' i l.length)
  | [], i, _ => rfl
  | o :: l, i, h => by
    have h0 : ops[i]? = some o := (h 0).symm.trans rfl
    funext s g
    simp only [runL, List.length_cons, List.range'_succ, runAt, h0]
    rw [runL_runAt l (i + 1) fun j => by rw [show i + 1 + j = i + (j + 1) from by omega, ← h (j + 1)]; rfl]

def Ahead (inf : List OI) (i j : Nat) : Prop := ∀ x, inf[i]? = some x → x.a.testBit j = false
section
variable {cx : Cx} {ops : List Oper} {inf : List OI} {nx : Nat} {K : St → Gs → Prop}
theorem gput_length (g : Gs) (i : Nat) (o : Option Ge) : (gput g i o).length = g.length := by cases o <;> simp [gput]
theorem gput_ne (g : Gs) {i k : Nat} (o : Option Ge) (h : k ≠ i) : (gput g i o)[k]? = g[k]? := by
  cases o with
  | none => rfl
  | some x => exact List.getElem?_set_ne (Ne.symm h)
theorem stepA_mono' {inf : Option (List OI)} {i : Nat} {o : Oper} {K K' : St → Gs → Prop} {s : St} {g : Gs} (h : ∀ s g', g'.length = g.length → K s g' → K' s g') (hh : stepA cx ops inf nx i o K s g) : stepA cx ops inf nx i o K' s g := by
  obtain ⟨s1, b1, G1, h1⟩ := stepA_iff.1 hh
  obtain ⟨v, sets, asked, gv, D, h1⟩ := does_iff.1 h1
  exact stepA_iff.2 ⟨s1, b1, G1, does_iff.2 ⟨v, sets, asked, gv, D, h _ _ (gput_length _ _ _) h1⟩⟩
theorem run_end {inf : Option (List OI)} : ∀ (l : List Nat) (s : St) (g : Gs), runAt cx ops inf nx K l s g → ∃ s' g', K s' g' ∧ g'.length = g.length ∧ ∀ k, k ∉ l → g'[k]? = g[k]?
  | [], s, g, h => ⟨s, g, h, rfl, fun _ _ => rfl⟩
  | i :: l, s, g, h => by
    simp only [runAt] at h
    split at h
    · obtain ⟨s', g', h1, h2, h3⟩ := run_end l s g h
      exact ⟨s', g', h1, h2, fun k hk => h3 k fun hm => hk (.tail _ hm)⟩
    · obtain ⟨s1, b1, G1, h1⟩ := stepA_iff.1 h
      obtain ⟨v, sets, asked, gv, D, h1⟩ := does_iff.1 h1
      obtain ⟨s', g', h2, h3, h4⟩ := run_end l _ _ h1
      exact ⟨s', g', h2, h3.trans (gput_length _ _ _), fun k hk => (h4 k fun hm => hk (.tail _ hm)).trans (gput_ne g gv fun e => hk (e ▸ .head _))⟩
theorem runAt_swap (ok : InfOK ops inf) (ha : apartAll inf = true) (hK : ∀ s g, K s g → chkG inf g = true) {i j : Nat} {l : List Nat} (hij : i ≠ j) (hil : i ∉ l) (hjl : j ∉ l) (h1 : Ahead inf i j) (h2 : Ahead inf j i) {s : St} {g : Gs} (hg : g.length = ops.length)
    (h : runAt cx ops (some inf) nx K (i :: j :: l) s g) : runAt cx ops (some inf) nx K (j :: i :: l) s g := by
  simp only [runAt] at h ⊢
  cases hi : ops[i]? with
  | none => simp only [hi] at h ⊢; exact h
  | some oi =>
    cases hj : ops[j]? with
    | none => simp only [hi, hj] at h ⊢; exact h
    | some oj =>
      simp only [hi, hj] at h ⊢
      have ei := ok.at_ i oi hi
      have ej := ok.at_ j oj hj
      have hl := loose_of hij (h2 _ ej) (h1 _ ei)
      have hap : Apart ops oi oj := by
        rcases Nat.lt_or_gt_of_ne hij with hlt | hlt
        · exact apartB_spec (apartAll_spec ha ei ej hlt hl)
        · exact (apartB_spec (apartAll_spec ha ej ei hlt (loose_symm hl))).symm
      refine stepA_comm hij hap (by rw [hg]; exact (List.getElem?_eq_some_iff.1 hi).1) (by rw [hg]; exact (List.getElem?_eq_some_iff.1 hj).1) (fun s' g' h' x y hx hy => ?_) h
      obtain ⟨s2, g2, h3, _, h4⟩ := run_end l s' g' h'
      have hc := hK _ _ h3
      rw [← h4 i hil] at hx
      rw [← h4 j hjl] at hy
      rcases Nat.lt_or_gt_of_ne hij with hlt | hlt
      · exact chkG_spec hc ei ej hx hy hlt hl
      · exact sepB_symm (chkG_spec hc ej ei hy hx hlt (loose_symm hl))
theorem runAt_front (ok : InfOK ops inf) (ha : apartAll inf = true) (hK : ∀ s g, K s g → chkG inf g = true) {i : Nat} : ∀ (c m : List Nat), (c ++ i :: m).Nodup → (∀ j ∈ c, Ahead inf i j ∧ Ahead inf j i) → ∀ s g, g.length = ops.length → runAt cx ops (some inf) nx K (c ++ i :: m) s g → runAt cx ops (some inf) nx K (i :: c ++ m) s g
  | [], m, _, _, s, g, _, h => h
  | j :: c, m, hn, hc, s, g, hg, h => by
    have hn' := List.nodup_cons.1 (show (j :: (c ++ i :: m)).Nodup from hn)
    have h1 : runAt cx ops (some inf) nx K (j :: i :: (c ++ m)) s g := by
      have h : runAt cx ops (some inf) nx K (j :: (c ++ i :: m)) s g := h
      simp only [runAt] at h ⊢
      split
      · rename_i he; rw [he] at h
        exact runAt_front ok ha hK c m hn'.2 (fun k hk => hc k (.tail _ hk)) s g hg h
      · rename_i o he; rw [he] at h
        exact stepA_mono' (fun s g' hl h => runAt_front ok ha hK c m hn'.2 (fun k hk => hc k (.tail _ hk)) s g' (hl.trans hg) h) h
    obtain ⟨h3, h4⟩ := hc j (.head _)
    have hp := (List.perm_middle (l₁ := c) (l₂ := m) (a := i)).nodup_iff.1 hn'.2
    exact runAt_swap ok ha hK (i := j) (j := i) (fun e => hn'.1 (by rw [e]; exact List.mem_append.2 (.inr (.head _)))) (fun hm => hn'.1 (by
      rcases List.mem_append.1 hm with h | h
      · exact List.mem_append.2 (.inl h)
      · exact List.mem_append.2 (.inr (.tail _ h)))) (List.nodup_cons.1 hp).1 h4 h3 hg h1
theorem runAt_perm (ok : InfOK ops inf) (ha : apartAll inf = true) (hK : ∀ s g, K s g → chkG inf g = true) : ∀ (l c : List Nat), l.Perm c → c.Nodup → l.Pairwise (Ahead inf) → c.Pairwise (Ahead inf) → ∀ s g, g.length = ops.length → runAt cx ops (some inf) nx K c s g → runAt cx ops (some inf) nx K l s g
  | [], c, hp, _, _, _, s, g, _, h => by rw [hp.nil_eq.symm] at h; exact h
  | i :: l, c, hp, hn, hl, hc, s, g, hg, h => by
    obtain ⟨c1, c2, rfl⟩ := List.append_of_mem (hp.subset (.head _))
    have hp2 : l.Perm (c1 ++ c2) := (List.perm_cons i).1 (hp.trans List.perm_middle)
    have hn2 := (List.perm_middle.nodup_iff).1 hn
    rw [List.pairwise_append, List.pairwise_cons] at hc
    rw [List.pairwise_cons] at hl
    have h1 := runAt_front ok ha hK c1 c2 hn (fun j hj => ⟨hl.1 j (hp2.symm.subset (List.mem_append.2 (.inl hj))), hc.2.2 j hj i (.head _)⟩) s g hg h
    have hpw : (c1 ++ c2).Pairwise (Ahead inf) := by
      rw [List.pairwise_append]
      exact ⟨hc.1, hc.2.1.2, fun a ha b hb => hc.2.2 a ha b (.tail _ hb)⟩
    have h1 : runAt cx ops (some inf) nx K (i :: (c1 ++ c2)) s g := h1
    simp only [runAt] at h1 ⊢
    split
    · rename_i he; rw [he] at h1
      exact runAt_perm ok ha hK l (c1 ++ c2) hp2 (List.nodup_cons.1 hn2).2 hl.2 hpw s g hg h1
    · rename_i o he; rw [he] at h1
      exact stepA_mono' (fun s g' hl' h => runAt_perm ok ha hK l (c1 ++ c2) hp2 (List.nodup_cons.1 hn2).2 hl.2 hpw s g' (hl'.trans hg) h) h1
end

/-! ### Orders that a region draws -/
def Closed (inf : List OI) (listed : Array Bool) : Prop := ∀ k x m, listed.getD k false = true → inf[k]? = some x → x.a.testBit m = true → listed.getD m false = true
theorem getD_true_false {listed : Array Bool} {k : Nat} (h : k < listed.size) : listed.getD k true = listed.getD k false := by simp [h]
theorem anc_listed {ops : Array Oper} {inf : List OI} (ok : InfOK ops.toList inf) (ha : apartAll inf = true) {listed : Array Bool} (hc : Closed inf listed) {i : Nat} (hi : i ∈ Region.ready .any ops listed) : ∀ x m, inf[i]? = some x → x.a.testBit m = true → listed.getD m false = true := by
  intro x m hx hm
  obtain ⟨_, o, ho, hall⟩ := mem_ready.1 hi
  have h1 := ok.at_ i o (by simpa using ho)
  rw [hx] at h1
  injection h1 with h1
  subst h1
  obtain ⟨e, he, hb, h⟩ := ancOf_spec.1 hm
  have h2 := hall e (by simpa using he) ((bindsB_eq e).symm.trans hb)
  rcases h with h | ⟨y, hy, h⟩
  · rw [← h]; exact h2
  · rw [List.getElem?_take] at hy
    split at hy
    · exact hc _ y m h2 hy h
    · cases hy
theorem Closed.step {ops : Array Oper} {inf : List OI} (ok : InfOK ops.toList inf) (ha : apartAll inf = true) {listed : Array Bool} (hc : Closed inf listed) {i : Nat} (hi : i ∈ Region.ready .any ops listed) : Closed inf (listed.setIfInBounds i true) := by
  intro k x m hk hx hm
  by_cases e : i = k
  · subst e; exact getD_set_true (anc_listed ok ha hc hi x m hx hm)
  · rw [Go.getD_set_ne false e] at hk
    exact getD_set_true (hc k x m hk hx hm)
def left (n : Nat) (listed : Array Bool) : List Nat := (List.range n).filter fun i => !listed.getD i false
theorem mem_left {n i : Nat} {listed : Array Bool} : i ∈ left n listed ↔ i < n ∧ listed.getD i false = false := by
  unfold left; rw [List.mem_filter, List.mem_range]; simp
theorem ready_exists {ops : Array Oper} {inf : List OI} (ok : InfOK ops.toList inf) (ha : apartAll inf = true) {listed : Array Bool} (hsz : listed.size = ops.size) {i : Nat} (hi : i ∈ left ops.size listed) : ∃ j, j ∈ Region.ready .any ops listed := by
  induction i using Nat.strongRecOn with
  | ind i ih =>
    obtain ⟨h1, h2⟩ := mem_left.1 hi
    have ho : ops[i]? = some ops[i] := Array.getElem?_eq_getElem h1
    by_cases hall : ∀ e ∈ ops[i].after, Region.binds .any e = true → listed.getD e.on false = true
    · exact ⟨i, mem_ready.2 ⟨by rw [getD_true_false (by omega)]; exact h2, _, ho, hall⟩⟩
    · have hall' : ∃ e, e ∈ ops[i].after ∧ Region.binds .any e = true ∧ listed.getD e.on false = false := by
        refine Classical.byContradiction fun hno => hall fun e he hb => ?_
        cases hq : listed.getD e.on false with
        | true => rfl
        | false => exact absurd ⟨e, he, hb, hq⟩ hno
      obtain ⟨e, he, hb, hn⟩ := hall'
      have hx := ok.at_ i ops[i] (by simp)
      have hlow := apartAll_low ha hx (m := e.on) (ancOf_spec.2 ⟨e, by simpa using he, (bindsB_eq e).trans hb, .inl rfl⟩)
      exact ih e.on hlow (mem_left.2 ⟨by omega, hn⟩)
theorem lin_perm {ops : Array Oper} {inf : List OI} (ok : InfOK ops.toList inf) (ha : apartAll inf = true) : ∀ (fuel t : Nat) (listed : Array Bool), listed.size = ops.size → Closed inf listed → (left ops.size listed).length ≤ fuel →
    (Region.linearise.go .any ops fuel t listed []).Perm (left ops.size listed) ∧ (Region.linearise.go .any ops fuel t listed []).Pairwise (Ahead inf) := by
  intro fuel
  induction fuel with
  | zero =>
    intro t listed hsz hc hf
    have : left ops.size listed = [] := List.length_eq_zero_iff.1 (by omega)
    rw [this]
    exact ⟨by simp [Region.linearise.go], by simp [Region.linearise.go]⟩
  | succ fuel ih =>
    intro t listed hsz hc hf
    simp only [Region.linearise.go]
    change List.Perm (match (Region.ready .any ops listed)[t % (Region.ready .any ops listed).length]? with
      | some i => Region.linearise.go .any ops fuel (t / (Region.ready .any ops listed).length) (listed.setIfInBounds i true) [i]
      | none => [].reverse) _ ∧ List.Pairwise _ (match (Region.ready .any ops listed)[t % (Region.ready .any ops listed).length]? with
      | some i => Region.linearise.go .any ops fuel (t / (Region.ready .any ops listed).length) (listed.setIfInBounds i true) [i]
      | none => [].reverse)
    cases hi : (Region.ready .any ops listed)[t % (Region.ready .any ops listed).length]? with
    | none =>
      have hnil : Region.ready .any ops listed = [] := by
        cases hr : Region.ready .any ops listed with
        | nil => rfl
        | cons x xs =>
          rw [hr] at hi
          have hlt : t % (x :: xs).length < (x :: xs).length := Nat.mod_lt _ (by simp)
          simp at hi
          simp at hlt
          omega
      have hl : left ops.size listed = [] := by
        cases hr : left ops.size listed with
        | nil => rfl
        | cons x xs =>
          obtain ⟨j, hj⟩ := ready_exists ok ha hsz (i := x) (by rw [hr]; exact .head _)
          rw [hnil] at hj; cases hj
      rw [hl]
      exact ⟨by simp, by simp⟩
    | some i =>
      have hr := List.mem_of_getElem? hi
      simp only []
      rw [linearise_go_acc, List.reverse_singleton, List.singleton_append]
      have hun := (mem_ready.1 hr).1
      have hlt : i < ops.size := by
        obtain ⟨_, o, ho, _⟩ := mem_ready.1 hr
        exact (Array.getElem?_eq_some_iff.1 ho).1
      rw [getD_true_false (by omega)] at hun
      have hp : (left ops.size listed).Perm (i :: left ops.size (listed.setIfInBounds i true)) := by
        rw [List.perm_ext_iff_of_nodup]
        · intro k
          rw [mem_left, List.mem_cons, mem_left]
          by_cases e : i = k
          · subst e; simp [hlt, hun]
          · rw [Go.getD_set_ne false e]
            exact ⟨fun h => .inr h, fun h => h.resolve_left (fun h => e h.symm)⟩
        · exact List.nodup_range.filter _
        · refine List.nodup_cons.2 ⟨fun h => ?_, List.nodup_range.filter _⟩
          obtain ⟨_, h2⟩ := mem_left.1 h
          rw [Array.getD_eq_getD_getElem?, Array.getElem?_setIfInBounds_self_of_lt (by omega)] at h2
          cases h2
      obtain ⟨h1, h2⟩ := ih (t / (Region.ready .any ops listed).length) (listed.setIfInBounds i true) (by simpa using hsz) (hc.step ok ha hr) (by have := hp.length_eq; simp at this; omega)
      refine ⟨((List.perm_cons i).2 h1).trans hp.symm, List.pairwise_cons.2 ⟨fun j hj x hx => ?_, h2⟩⟩
      cases hb : x.a.testBit j with
      | false => rfl
      | true =>
        have h3 := anc_listed ok ha hc hr x j hx hb
        have h4 := (mem_left.1 (h1.subset hj)).2
        rw [getD_set_true h3] at h4; cases h4
theorem lin_any {cx : Cx} {ops : Array Oper} {inf : List OI} {nx : Nat} {K : St → Gs → Prop} (ok : InfOK ops.toList inf) (ha : apartAll inf = true) (hK : ∀ s g, K s g → chkG inf g = true) (t : Nat) {s : St} {g : Gs} (hg : g.length = ops.toList.length) (h : runL cx ops.toList (some inf) nx K ops.toList 0 s g) :
    runAt cx ops.toList (some inf) nx K (Region.linearise .any ops t) s g ∧ (Region.linearise .any ops t).Nodup ∧ (Region.linearise .any ops t).Pairwise (Ahead inf) := by
  have hl : left ops.size (Array.replicate ops.size false) = List.range ops.size := by
    unfold left
    rw [List.filter_eq_self]
    intro i hi
    simp [List.mem_range.1 hi]
  have hz : ∀ k, (Array.replicate ops.size false).getD k false = false := fun k => by
    rw [Array.getD_eq_getD_getElem?]
    by_cases h : k < ops.size <;> simp [h]
  obtain ⟨h1, h2⟩ := lin_perm ok ha ops.size t (Array.replicate ops.size false) (by simp) (fun k x m hk => by rw [hz k] at hk; cases hk) (by rw [hl]; simp)
  rw [hl] at h1
  refine ⟨?_, h1.nodup_iff.2 List.nodup_range, h2⟩
  refine runAt_perm ok ha hK _ (List.range ops.size) h1 List.nodup_range h2 ?_ s g hg ?_
  · rw [List.pairwise_iff_getElem]
    intro i j hi hj hij x hx
    simp only [List.getElem_range] at hx ⊢
    cases hb : x.a.testBit j with
    | false => rfl
    | true => have := apartAll_low ha hx hb; omega
  · rw [runL_runAt ops.toList 0 (by simp)] at h
    rw [List.range_eq_range']
    simpa using h
end Go.Proofs.YtnhipiedjekkpaaGreatDoor.AX
end
section
namespace Go.Proofs.YtnhipiedjekkpaaGreatDoor.AX
open Go Go.RowKit


section
variable {cx : Cx} {w0 w : World} {E F : Nat → Prop} {I : Im} {s : St} {a : Act}

theorem Rel.hpEq (hR : Rel cx.tid w0 E F I s a w) {hp : List (Option Blk)} (h : ∀ id, hp.getD id none = s.hp.getD id none) : Rel cx.tid w0 E F I ⟨s.tm, hp⟩ a w :=
  { hR with hp := fun id => by have := hR.hp id; rw [← h id] at this; exact this }
theorem Rel.ref (hR : Rel cx.tid w0 E F I s a w) (d : Nat) : Rel cx.tid w0 E F I ⟨refT s.tm d, s.hp⟩ a w := by
  refine { hR with tm := .of (by rw [hR.tm.length]; exact (length_refT _ _).symm) fun i v x hv hx => ?_ }
  obtain ⟨y, hy, hr⟩ := hR.tm.get' hv
  have h1 := getD_refT s.tm d i
  rw [List.getD_eq_getElem?_getD, hx, List.getD_eq_getElem?_getD] at h1
  simp only [Option.getD_some] at h1
  split at h1
  · rename_i e
    subst e
    rw [h1, hy]
    simp only [Option.getD_some]
    cases y <;> first | exact hr | (have := ValR.bool hr; subst this; exact .leaf (.lit _))
  · rw [h1, List.getD_eq_getElem?_getD, hy]; exact hr
theorem slot_value (hR : Rel cx.tid w0 E F I s a w) {d : Nat} {x : AV} (h : s.tm.getD d .any = x) (hx : x ≠ .any) : ∃ v, a.tmps[d]? = some v ∧ ValR w (Own F I) I v x := by
  have hlt := getD_lt (tm := s.tm) (d := d) (by rw [h]; exact hx)
  rw [List.getD_eq_getElem?_getD, List.getElem?_eq_getElem hlt] at h
  obtain ⟨v, hv, hr⟩ := hR.tm.get (i := d) (b := s.tm[d]) (List.getElem?_eq_getElem hlt)
  simp only [Option.getD_some] at h
  exact ⟨v, by simpa using hv, h ▸ hr⟩
theorem yielded_R {ops : Array Oper} (hR : Rel cx.tid w0 E F I s a w) {j d : Nat} {ob : Option Bool} (hd : (ops.toList[j]?).bind (·.dst) = some d) (hv : gval s.tm d = some ob) : yielded ops a.tmps j = ob := by
  have hd' : (ops[j]?).bind (·.dst) = some d := by simpa using hd
  unfold yielded
  rw [hd']
  simp only [Option.bind_some]
  unfold gval at hv
  split at hv
  · rename_i b hb
    injection hv with hv; subst hv
    obtain ⟨v, h1, h2⟩ := slot_value hR hb (fun e => nomatch e)
    rw [h1, ValR.lit h2]
  · rename_i b hb
    injection hv with hv; subst hv
    obtain ⟨v, h1, h2⟩ := slot_value hR hb (fun e => nomatch e)
    rw [h1, ValR.bool h2]
  · rename_i hb
    injection hv with hv; subst hv
    obtain ⟨v, h1, h2⟩ := slot_value hR hb (fun e => nomatch e)
    obtain ⟨us, rfl, _⟩ := h2
    rw [h1]
  · cases hv
theorem Gd.sound {ops : Array Oper} {o : Oper} {s' : St} {b : Bool} (h : Gd ops.toList o s s' b) (hR : Rel cx.tid w0 E F I s a w) : Rel cx.tid w0 E F I s' a w ∧ Region.wanted o (yielded ops a.tmps) = b := by
  cases h with
  | free hg => exact ⟨hR, by unfold Region.wanted; rw [hg]⟩
  | slot j want d ob hg hd hv =>
    refine ⟨hR.ref d, ?_⟩
    unfold Region.wanted
    rw [hg]
    simp only
    rw [yielded_R hR hd hv]
    cases ob with
    | none => rfl
    | some b => cases b <;> cases want <;> rfl

def Kp (A : Nat → Option Value) (a : Act) : Prop := ∀ d v, A d = some v → a.tmps[d]? = some v
theorem Kp.put {A : Nat → Option Value} {d : Option Tmp} {v : Value} (h : Kp A a) (hd : ∀ k, d = some k → A k = none) : Kp A (a.put d v) := by
  intro k u hk
  cases d with
  | none => exact h k u hk
  | some d =>
    have hne : d ≠ k := fun e => by rw [← e, hd d rfl] at hk; cases hk
    simp only [Act.put]
    rw [Array.getElem?_setIfInBounds_ne hne]
    exact h k u hk
theorem wp_kept {P : Program} {A : Nat → Option Value} {o : Oper} {next next' : Act → World → Prop} {Q : Exit → Act → World → Prop} (hA : Kp A a) (hd : ∀ k, o.dst = some k → A k = none) (h : o.wp P a w next' Q) (hn : ∀ a' w', Kp A a' → next' a' w' → next a' w') : o.wp P a w next Q := by
  have hp : ∀ v w', next' (a.put o.dst v) w' → next (a.put o.dst v) w' := fun v w' h => hn _ _ (hA.put hd) h
  unfold Oper.wp at *
  generalize (execOp a.eval o).run P w = r at *
  cases r with
  | ok n w' =>
    cases n <;> simp only [Oper.upon] at h ⊢ <;>
      first
        | exact hp _ _ h
        | exact Calls.mono h (fun e w'' he => by cases e <;> first | exact hp _ _ he | exact he)
        | exact Rows.mono h (fun _ _ he => hp _ _ he)
        | exact hn _ _ (Kp.put (fun k v hk => hA k v hk) hd) h
  | halt x w' => cases x <;> simp only [Oper.upon] at h ⊢ <;> exact h

def Later (inf : Option (List OI)) (nx i j : Nat) : Prop := ∀ e asked, okO inf nx i e asked = true → ∀ p ∈ e.sets, ¬ (nx + 4 * j ≤ p.1 ∧ p.1 < nx + 4 * j + 4)
def givens (g : Gs) : Prop := ∀ e ∈ g, ∀ p, e.p = some p → p
theorem wpOps_sound (ok : CxOK cx) (tok : TOK cx) {A : Nat → Option Value} {ops : Array Oper} {inf : Option (List OI)} {nx : Nat} {K : St → Gs → Prop} {Q : Exit → Act → World → Prop} (hA : ∀ (i : Nat) (o : Oper), ops[i]? = some o → ∀ k, o.dst = some k → A k = none) : ∀ (l : List Nat), l.Pairwise (Later inf nx) → (∀ I' a' w' s' g', Rel cx.tid w0 E F I' s' a' w' → Kp A a' → givens g' → K s' g' → Q .normal a' w') →
    ∀ (I : Im) (a : Act) (w : World) (s : St) (g : Gs), (∀ i ∈ l, Fresh s.hp (nx + 4 * i)) → Rel cx.tid w0 E F I s a w → Kp A a → givens g → runAt cx ops.toList inf nx K l s g → wpOps cx.P ops Q l a w
  | [], _, hQ, I, a, w, s, g, _, hR, hk, hg, h => hQ I a w s g hR hk hg h
  | i :: l, hl, hQ, I, a, w, s, g, hf, hR, hk, hg, h => by
    rw [List.pairwise_cons] at hl
    have ih := wpOps_sound ok tok (ops := ops) (inf := inf) (nx := nx) (K := K) (Q := Q) hA l hl.2 hQ
    rw [wpOps_cons]
    unfold wpOp
    simp only [runAt, Array.getElem?_toList] at h
    cases ho : ops[i]? with
    | none => simp only [ho] at h ⊢; exact ih I a w s g (fun i hi => hf i (.tail _ hi)) hR hk hg h
    | some o =>
      simp only [ho] at h ⊢
      obtain ⟨s', b, hG, h⟩ := stepA_iff.1 h
      obtain ⟨hR', hw⟩ := hG.sound hR
      have es := hG.shape
      rw [hw]
      cases b with
      | false =>
        simp only [Bool.false_eq_true, if_false] at h ⊢
        rw [skipOp_iff] at h
        refine ih I _ w _ g ?_ (hR'.put o.dst (x := .tup []) ⟨[], rfl, .nil⟩) (hk.put (hA i o ho)) hg ?_
        · intro k hk; subst es; exact hf k (.tail _ hk)
        · cases hd : o.dst <;> simpa only [hd, putL'] using h
      | true =>
        simp only [if_true] at h ⊢
        obtain ⟨e, asked, hrun, hok, hpre, hK⟩ := doOp_iff.1 h
        refine .inl (wp_kept (next' := fun a' w' => ∃ I', Rel cx.tid w0 E F I' (stepSt s' o.dst e) a' w' ∧ givenP e) hk (hA i o ho) (op_sound ok tok hR' ?_ hrun hpre fun I' a' w' hR2 hgv => ⟨I', hR2, hgv⟩) fun a' w' hk2 ⟨I', hR2, hgv⟩ => ih I' a' w' _ _ ?_ hR2 hk2 ?_ hK)
        · subst es; exact hf i (.head _)
        · intro k hk j hj
          have h0 := hf k (.tail _ hk) j hj
          subst es
          refine ⟨?_, by simp only [stepSt, setAll_length]; exact h0.2⟩
          simp only [stepSt]
          rw [setAll_other fun p hp e' => ?_]
          · exact h0.1
          · exact hl.1 k hk e asked hok p hp (by omega)
        · intro d hd p hp
          rcases List.mem_or_eq_of_mem_set hd with h | h
          · exact hg d h p hp
          · subst h
            simp only at hp
            unfold givenP at hgv; rw [hp] at hgv; exact hgv

def trimL : List (Option Blk) → List (Option Blk)
  | [] => []
  | a :: l => match trimL l, a with
    | [], none => []
    | l', a => a :: l'
theorem trim_eq {R : Sort _} : ∀ (l : List (Option Blk)) (k : List (Option Blk) → R), trim l k = k (trimL l)
  | [], k => rfl
  | a :: l, k => by
    simp only [trim, trimL]
    rw [trim_eq l]
    cases trimL l <;> cases a <;> rfl
theorem trimL_get : ∀ (l : List (Option Blk)) (id : Nat), (trimL l).getD id none = l.getD id none
  | [], id => rfl
  | a :: l, id => by
    have ih := trimL_get l
    simp only [trimL]
    split
    · rename_i h1
      rw [h1] at ih
      cases id with
      | zero => rfl
      | succ id => have := ih id; simp only [List.getD_cons_succ]; rw [← this]; rfl
    · cases id with
      | zero => rfl
      | succ id => simp only [List.getD_cons_succ]; exact ih id
theorem conjG_use : ∀ {g : Gs} {K : Prop}, givens g → conjG g K → K
  | [], _, _, h => h
  | ⟨none, _, _⟩ :: g, _, hg, h => conjG_use (g := g) (fun e he => hg e (.tail _ he)) h
  | ⟨some p, _, _⟩ :: g, _, hg, h => conjG_use (g := g) (fun e he => hg e (.tail _ he)) (h.on (hg _ (.head _) p rfl))
theorem gnones_eq : ∀ n, gnones n = List.replicate n ⟨none, 0, 0⟩
  | 0 => rfl
  | n + 1 => by simp only [gnones, gnones_eq n]; rfl

theorem later_none {nx : Nat} {n : Nat} : (List.range n).Pairwise (Later none nx) := by
  rw [List.pairwise_iff_getElem]
  intro i j hi hj hij e asked hok p hp h
  simp only [List.getElem_range] at hok h
  have h1 := allN_spec hok p.1 (List.mem_map.2 ⟨p, hp, rfl⟩)
  have := Nat.le_of_ble_eq_true h1
  omega
theorem later_some {inf : List OI} {nx : Nat} {l : List Nat} (hn : l.Nodup) (h : l.Pairwise (Ahead inf)) : l.Pairwise (Later (some inf) nx) := by
  refine (List.Pairwise.and h hn).imp ?_
  intro i j ⟨ha, hne⟩ e asked hok p hp hh
  simp only [okO, okEff] at hok
  split at hok
  · cases hok
  · rename_i x hx
    split at hok
    · rename_i h3; rw [h3] at hp; cases hp
    · cases hok
    · simp only [Bool.and_eq_true] at hok
      have h4 := allN_spec hok.2 p.1 (List.mem_map.2 ⟨p, hp, rfl⟩)
      have : Nat.blt p.1 nx = false := by
        cases hb : Nat.blt p.1 nx with
        | false => rfl
        | true => exact absurd (Nat.le_of_ble_eq_true hb) (by omega)
      have hq : (p.1 - nx) / 4 = j := by omega
      simp only [this, Bool.or_eq_true, hq] at h4
      rcases h4 with h4 | h4
      · exact hne (Nat.eq_of_beq_eq_true h4).symm
      · rw [ha x hx] at h4
        cases h4

theorem regA_sound (ok : CxOK cx) (tok : TOK cx) {A : Nat → Option Value} {id : Nat} {ops : Array Oper} {draw : Bool} {K : St → Prop} {Q : Exit → Act → World → Prop} (hA : ∀ (i : Nat) (o : Oper), ops[i]? = some o → ∀ k, o.dst = some k → A k = none) (hR : Rel cx.tid w0 E F I s a w) (hk : Kp A a) (h : regA cx ops.toList draw K s)
    (hQ : ∀ I' a' w' s', Rel cx.tid w0 E F I' s' a' w' → Kp A a' → K s' → Q .normal a' w') : (Code.region id ops draw).wp cx.P Q a w := by
  unfold regA at h
  simp only [appC_eq, trim_eq, nones_eq, gnones_eq] at h
  have hp0 : ∀ k, (s.hp ++ List.replicate (4 * ops.toList.length) none).getD k none = s.hp.getD k none := by
    intro k
    simp only [List.getD_eq_getElem?_getD, List.getElem?_append, List.getElem?_replicate]
    split
    · rfl
    · rename_i hk
      rw [List.getElem?_eq_none (Nat.le_of_not_lt hk)]
      split <;> rfl
  have hf : ∀ i, i < ops.size → Fresh (s.hp ++ List.replicate (4 * ops.toList.length) none) (s.hp.length + 4 * i) := by
    intro i hi j hj
    refine ⟨?_, by simp; omega⟩
    rw [hp0, List.getD_eq_getElem?_getD, List.getElem?_eq_none (by omega)]; rfl
  have hg : givens (List.replicate ops.toList.length ⟨none, 0, 0⟩) := fun e he p hp => by
    rw [List.eq_of_mem_replicate he] at hp; cases hp
  have fin : ∀ (inf : Option (List OI)) I' a' w' s' g', Rel cx.tid w0 E F I' s' a' w' → Kp A a' → givens g' → (match chkO inf g' with
      | true => conjG g' (K ⟨s'.tm, trimL s'.hp⟩)
      | false => False) → Q .normal a' w' := fun inf I' a' w' s' g' h1 hk h2 h3 => by
    split at h3
    · exact hQ I' a' w' _ (h1.hpEq (trimL_get _)) hk (conjG_use h2 h3)
    · exact h3.elim
  cases draw with
  | true =>
    rw [ok.chk] at h
    obtain ⟨inf, iok, ha, h⟩ := infC_drawn h
    refine wp_region_draw fun t => ?_
    simp only [Region.schedule, ok.mixed, Bool.true_or, if_true]
    obtain ⟨h1, h2, h3⟩ := lin_any iok ha (fun s g hh => by
      cases hc : chkG inf g with
      | true => rfl
      | false => simp only [chkO, hc] at hh) t (by simp) h
    have hlt : ∀ i ∈ Region.linearise .any ops t, i < ops.size := fun i hi => by
      obtain ⟨hp, _⟩ := lin_perm iok ha ops.size t (Array.replicate ops.size false) (by simp) (fun k x m hk => by
        have hz : (Array.replicate ops.size false).getD k false = false := by
          rw [Array.getD_eq_getD_getElem?]
          by_cases h : k < ops.size <;> simp [h]
        rw [hz] at hk; cases hk) (by
          have := List.length_filter_le (fun i => !(Array.replicate ops.size false).getD i false) (List.range ops.size)
          simpa [left] using this)
      exact (mem_left.1 (hp.subset hi)).1
    exact wpOps_sound ok tok hA _ (later_some h2 h3) (fin _) I a _ _ _ (fun i hi => hf i (hlt i hi)) (hR.drew.hpEq hp0) hk hg h1
  | false =>
    have key : ∀ (k : Option (List OI) → Prop), infC cx.chk false ops.toList False k = k none := fun k => by cases cx.chk <;> rfl
    rw [key] at h
    refine wp_region ?_
    rw [runL_runAt ops.toList 0 (by simp), Array.length_toList, ← List.range_eq_range'] at h
    exact wpOps_sound ok tok hA _ later_none (fin none) I a _ _ _ (fun i hi => hf i (List.mem_range.1 hi)) (hR.hpEq hp0) hk hg h
end
end Go.Proofs.YtnhipiedjekkpaaGreatDoor.AX
end
section
namespace Go.Proofs.YtnhipiedjekkpaaGreatDoor.AX
open Go Go.RowKit

def toExit : Ex → Exit
  | .norm => .normal
  | .exit id => .exit id
  | .ret => .ret
theorem hasN_iff : ∀ {l : List Nat} {n : Nat}, hasN l n = true ↔ n ∈ l
  | [], n => by simp [hasN]
  | m :: l, n => by
    simp only [hasN]
    split
    · rename_i h; simp [Nat.eq_of_beq_eq_true h]
    · rename_i h
      rw [hasN_iff, List.mem_cons]
      refine ⟨.inr, fun e => e.resolve_left fun e => ?_⟩
      rw [e, Nat.beq_refl] at h; cases h
def clearL (fix : List Nat) : List Oper → Bool
  | [] => true
  | o :: l => match o.dst with
    | none => clearL fix l
    | some d => match hasN fix d with
      | true => false
      | false => clearL fix l
def clearC (fix : List Nat) : Code → Bool
  | .region _ ops _ => clearL fix ops.toList
  | .seq x y => match clearC fix x with
    | true => clearC fix y
    | false => false
  | .cond _ x y => match clearC fix x with
    | true => clearC fix y
    | false => false
  | .block _ c => clearC fix c
  | .loop c => clearC fix c
  | .scope c => clearC fix c
  | _ => true
theorem clearL_spec {fix : List Nat} (l : List Oper) (h : clearL fix l = true) (p : Oper) (hp : p ∈ l) (d : Nat) (hd : p.dst = some d) : d ∉ fix := by
  induction l with
  | nil => cases hp
  | cons o l ih =>
    intro hm
    unfold clearL at h
    cases hp with
    | head =>
      rw [hd] at h
      simp only [hasN_iff.2 hm] at h
      cases h
    | tail _ hp =>
      cases hd' : o.dst with
      | none => rw [hd'] at h; exact ih h hp hm
      | some e =>
        rw [hd'] at h
        simp only at h
        split at h
        · cases h
        · exact ih h hp hm
def loopsOf : Nat → Code → List (Nat × Code)
  | b, .seq x y => loopsOf b x ++ loopsOf b y
  | b, .cond _ x y => loopsOf b x ++ loopsOf b y
  | _, .block id c => loopsOf id c
  | b, .loop c => [(b, c)]
  | b, .scope c => loopsOf b c
  | _, _ => []

def Snd (cx : Cx) (fix : List Nat) (c : Code) (s : St) (K : Ex → St → Prop) : Prop :=
  ∀ (w0 : World) (E F : Nat → Prop) (A : Nat → Option Value) (I : Im) (a : Act) (w : World) (Q : Exit → Act → World → Prop), (∀ d, A d ≠ none → d ∈ fix) → Rel cx.tid w0 E F I s a w → Kp A a →
    (∀ e I' s' a' w', Rel cx.tid w0 E F I' s' a' w' → Kp A a' → K e s' → Q (toExit e) a' w') → c.wp cx.P Q a w
theorem Snd.mono {cx : Cx} {fix : List Nat} {c : Code} {s : St} {K K' : Ex → St → Prop} (h : Snd cx fix c s K) (hk : ∀ e s, K e s → K' e s) : Snd cx fix c s K' :=
  fun w0 E F A I a w Q h1 h2 h3 h4 => h w0 E F A I a w Q h1 h2 h3 fun e I' s' a' w' r1 r2 r3 => h4 e I' s' a' w' r1 r2 (hk e s' r3)
def LoopsOK (cx : Cx) (fix : List Nat) (L : Loops) (b : Nat) (c : Code) : Prop := ∀ p ∈ loopsOf b c, ∀ s K, L p.1 s K → Snd cx fix (.loop p.2) s K

theorem setC_lit {s : St} {t : Nat} {b : Bool} {k : St → Prop} (h : s.tm.getD t .any = .bool b) : refC s t b k = k ⟨refT s.tm t, s.hp⟩ := by
  unfold refC refT
  rw [setC_eq, h]

theorem cold_R {tid : Env} {w0 : World} {E F : Nat → Prop} {a : Act} {w : World} {k : St → Prop} : ∀ (l : List Nat) {I : Im} {s : St}, Rel tid w0 E F I s a w → coldC l s k → ∃ I' s', Rel tid w0 E F I' s' a w ∧ k s'
  | [], I, s, hR, h => ⟨I, s, hR, h⟩
  | t :: l, I, s, hR, h => by
    unfold coldC at h
    split at h
    case h_2 => exact h.elim
    rename_i id n ht
    split at h
    case h_2 => exact h.elim
    rename_i m ty xs hb
    split at h
    case h_2 => exact h.elim
    rename_i hm
    have hm := Nat.eq_of_beq_eq_true hm
    subst hm
    rw [setC_eq, setC_eq] at h
    have hlt : s.tm[t]? = some (.own id m) := by
      rw [List.getD_eq_getElem?_getD] at ht
      cases e : s.tm[t]? with
      | none => rw [e] at ht; cases ht
      | some x => rw [e] at ht; exact congrArg some ht
    obtain ⟨v, hv, hr⟩ := hR.tm.get hlt
    have hrow := still_row hR hb (ids := [id]) (.head _) hr
    have hk := hR.kill [id] (fun k hk => by
      rw [List.mem_singleton] at hk
      subst hk
      have := hR.hp k
      rw [hb] at this
      obtain ⟨l0, h0, _⟩ := this
      rw [h0]; rfl)
    refine cold_R l (I := AX.kill I [id]) (s := ⟨s.tm.set t (.row ty xs), s.hp.set id (some .dead)⟩) ?_ h
    refine ⟨hk.defers, .of (by rw [List.length_set]; exact hk.tm.length) fun j u x hu hx => ?_, hk.hp, hk.inj, hk.apart, hk.place, hk.out, hk.os, hk.tape, hk.output, hk.size, hk.kept, hk.glob⟩
    rw [List.getElem?_set] at hx
    split at hx
    · rename_i e
      subst e
      split at hx
      · injection hx with hx
        subst hx
        rw [hv] at hu; injection hu with hu; subst hu
        exact .leaf hrow
      · cases hx
    · obtain ⟨y, hy, hr'⟩ := hk.tm.get' hu
      have : s.tm[j]? = some y := hy
      rw [hx] at this; injection this with this; subst this
      exact hr'
theorem wpA_sound {cx : Cx} {fix : List Nat} {L : Loops} (ok : CxOK cx) (tok : TOK cx) : ∀ (c : Code) (b : Nat), LoopsOK cx fix L b c → clearC fix c = true → ∀ K s, wpA cx L b c K s → Snd cx fix c s K := by
  intro c
  induction c with
  | skip => 
    intro b _ _ K s h w0 E F A I a w Q hA hR hk hQ
    exact wp_skip (hQ .norm I s a w hR hk h)
  | region id ops draw =>
    intro b _ hc K s h w0 E F A I a w Q hA hR hk hQ
    refine regA_sound ok tok (fun i o ho k hd => ?_) hR hk h fun I' a' w' s' r1 r2 r3 => by
      obtain ⟨I2, s2, r4, r5⟩ := cold_R _ r1 r3
      exact hQ .norm I2 s2 a' w' r4 r2 r5
    cases hAk : A k with
    | none => rfl
    | some v =>
      have := hA k (by rw [hAk]; exact fun e => nomatch e)
      exact absurd this (clearL_spec _ hc o (List.mem_of_getElem? (by simpa using ho)) k hd)
  | seq x y ihx ihy =>
    intro b hl hc K s h w0 E F A I a w Q hA hR hk hQ
    simp only [clearC] at hc
    split at hc
    · rename_i hcx
      refine wp_seq (ihx b (fun p hp => hl p (List.mem_append.2 (.inl hp))) hcx _ s h w0 E F A I a w _ hA hR hk fun e I' s' a' w' r1 r2 r3 => ?_)
      cases e with
      | norm => exact ihy b (fun p hp => hl p (List.mem_append.2 (.inr hp))) hc _ s' r3 w0 E F A I' a' w' _ hA r1 r2 hQ
      | exit id => exact hQ (.exit id) I' s' a' w' r1 r2 r3
      | ret => exact hQ .ret I' s' a' w' r1 r2 r3
    · cases hc
  | cond c x y ihx ihy =>
    intro b hl hc K s h w0 E F A I a w Q hA hR hk hQ
    simp only [clearC] at hc
    split at hc
    · rename_i hcx
      have hx := ihx b (fun p hp => hl p (List.mem_append.2 (.inl hp))) hcx
      have hy := ihy b (fun p hp => hl p (List.mem_append.2 (.inr hp))) hc
      simp only [wpA] at h
      split at h
      · rename_i t
        have hev : a.eval (.tmp t) = a.tmps.getD t undef := rfl
        have val : ∀ {x : AV}, s.tm.getD t .any = x → x ≠ .any → ValR w (Own F I) I (a.eval (.tmp t)) x := by
          intro x hx hne
          have := hR.ev (.tmp t)
          simp only [evalA] at this
          rw [hx] at this
          exact this
        split at h
        · rename_i hb
          exact wp_cond_true (val hb (fun e => nomatch e)).lit (hx K s h w0 E F A I a w Q hA hR hk hQ)
        · rename_i hb
          exact wp_cond_false (val hb (fun e => nomatch e)).lit (hy K s h w0 E F A I a w Q hA hR hk hQ)
        · rename_i v hb
          have hv := (val hb (fun e => nomatch e)).bool
          cases v with
          | true =>
            have := h.yes rfl
            rw [setC_lit hb] at this
            exact wp_cond_true hv (hx K _ this w0 E F A I a w Q hA (hR.ref t) hk hQ)
          | false =>
            have := h.no rfl
            rw [setC_lit hb] at this
            exact wp_cond_false hv (hy K _ this w0 E F A I a w Q hA (hR.ref t) hk hQ)
        · exact h.elim
      · exact h.elim
    · cases hc
  | scope c ih =>
    intro b hl hc K s h w0 E F A I a w Q hA hR hk hQ
    refine wp_scope_straight (ih b hl hc _ s h w0 E F A I a w _ hA hR hk fun e I' s' a' w' r1 r2 r3 => ?_)
    cases e with
    | norm => exact hQ .norm I' s' a' w' r1 r2 r3
    | exit j => exact hQ (.exit j) I' s' a' w' r1 r2 r3
    | ret => exact hQ .ret I' s' a' w' r1 r2 r3
  | label l =>
    intro b _ _ K s h w0 E F A I a w Q hA hR hk hQ
    exact wp_label (hQ .norm I s a w hR hk h)
  | block id c ih =>
    intro b hl hc K s h w0 E F A I a w Q hA hR hk hQ
    refine wp_block (ih id hl hc _ s h w0 E F A I a w _ hA hR hk fun e I' s' a' w' r1 r2 r3 => ?_)
    cases e with
    | norm => exact hQ .norm I' s' a' w' r1 r2 r3
    | exit j =>
      simp only at r3
      simp only [toExit, Exit.inBlock]
      split at r3
      · rename_i hb
        rw [if_pos (Nat.eq_of_beq_eq_true hb)]
        exact hQ .norm I' s' a' w' r1 r2 r3
      · rename_i hb
        rw [if_neg (fun e => by rw [e, Nat.beq_refl] at hb; cases hb)]
        exact hQ (.exit j) I' s' a' w' r1 r2 r3
    | ret => exact hQ .ret I' s' a' w' r1 r2 r3
  | loop c ih =>
    intro b hl _ K s h
    exact hl (b, c) (.head _) s K h
  | exit id =>
    intro b _ _ K s h w0 E F A I a w Q hA hR hk hQ
    exact wp_exit (hQ (.exit id) I s a w hR hk h)
  | ret =>
    intro b _ _ K s h w0 E F A I a w Q hA hR hk hQ
    exact wp_ret (hQ .ret I s a w hR hk h)
  | _ => intro b _ _ K s h; exact h.elim
end Go.Proofs.YtnhipiedjekkpaaGreatDoor.AX
end
section
namespace Go.Proofs.YtnhipiedjekkpaaGreatDoor.AX
open Go Go.RowKit

structure Ext (I I' : Im) : Prop where
  sub : ∀ id l, I id = some l → I' id = some l
  back : ∀ i l b, I' i = some l → l.has b → ∃ j l0, I j = some l0 ∧ l0.has b
theorem Ext.le {I I' : Im} (h : Ext I I') : ImLe I I' := fun id l hl => ⟨l, h.sub id l hl, .inl rfl⟩
theorem Ext.refl (I : Im) : Ext I I := ⟨fun _ _ h => h, fun i l b h1 h2 => ⟨i, l, h1, h2⟩⟩
section
variable {tid : Env} {w : World} {F : Nat → Prop} {I I' I'' : Im} {hp : List (Option Blk)}
theorem Ext.own (h : Ext I I') {b : Nat} (hb : Own F I' b) : Own F I b := by
  rcases hb with hb | ⟨i, l, h1, h2⟩
  · exact .inl hb
  · exact .inr (h.back i l b h1 h2)
theorem Ext.leaf (h : Ext I I') {v : Value} {a : AV} (hv : LeafR w (Own F I) I v a) : LeafR w (Own F I') I' v a := hv.mono (fun _ _ _ => rfl) (fun _ _ hb => h.own hb) h.le
theorem Ext.val (h : Ext I I') {v : Value} {a : AV} (hv : ValR w (Own F I) I v a) : ValR w (Own F I') I' v a := hv.mono (fun _ _ _ => rfl) (fun _ _ hb => h.own hb) h.le

theorem want_new (hH : HRel tid F I hp w) (t : Ty) : ∃ I', HRel tid F I' (hp ++ [some (Blk.rowb 0 t [])]) w ∧ Ext I I' ∧ LeafR w (Own F I') I' (.slice none 0 0) (.own hp.length 0) ∧ (∀ k, k < hp.length → I' k = I k) := by
  have h0 : I hp.length = none := by have := hH.hp hp.length; rw [List.getD_eq_getElem?_getD, List.getElem?_eq_none (Nat.le_refl _)] at this; exact this
  have hno : ∀ b, ¬ (Loc.row 0 t (.slice none 0 0)).has b := fun b h => by cases h
  have hx : Ext I (iup I hp.length (.row 0 t (.slice none 0 0))) := by
    refine ⟨fun k l hk => ?_, fun i l b h1 h2 => ?_⟩
    · rw [iup_ne _ _ (fun e => by rw [e, h0] at hk; cases hk)]; exact hk
    · by_cases e : i = hp.length
      · subst e; rw [iup_same] at h1; injection h1 with h1; subst h1; exact (hno b h2).elim
      · rw [iup_ne _ _ e] at h1; exact ⟨i, l, h1, h2⟩
  refine ⟨_, ⟨fun id => ?_, ?_, ?_, ?_, hH.out, hH.glob.sub fun _ hb => hx.own hb⟩, hx, own_new (iup_same _ _ _) rfl, fun k hk => iup_ne _ _ (by omega)⟩
  · by_cases e : id = hp.length
    · subst e
      have e1 : (hp ++ [some (Blk.rowb 0 t [])]).getD hp.length none = some (Blk.rowb 0 t []) := by simp [List.getD]
      rw [e1]
      exact ⟨_, iup_same _ _ _, .slice none 0 0, [], rfl, by simp [maxSl], ⟨by simp, .inl ⟨rfl, rfl⟩⟩, .nil⟩
    · have e1 : (hp ++ [some (Blk.rowb 0 t [])]).getD id none = hp.getD id none := by
        simp only [List.getD_eq_getElem?_getD, List.getElem?_append]
        split
        · rfl
        · rename_i hk
          rw [List.getElem?_eq_none (Nat.le_of_not_lt hk), List.getElem?_eq_none (by simp; omega)]
      rw [e1, iup_ne _ _ e]
      have := hH.hp id
      generalize hp.getD id none = ob at this ⊢
      cases ob with
      | none => exact this
      | some b =>
        obtain ⟨l, h1, h2⟩ := this
        exact ⟨l, h1, h2.mono (fun _ _ _ => rfl) (fun _ _ hb => hx.own hb) hx.le fun _ _ => rfl⟩
  · intro i j l l' b h1 h2 h3 h4
    by_cases e : i = hp.length
    · subst e; rw [iup_same] at h1; injection h1 with h1; subst h1; exact (hno b h3).elim
    · by_cases e' : j = hp.length
      · subst e'; rw [iup_same] at h2; injection h2 with h2; subst h2; exact (hno b h4).elim
      · rw [iup_ne _ _ e] at h1; rw [iup_ne _ _ e'] at h2
        exact hH.inj i j l l' b h1 h2 h3 h4
  · intro i l b h1 h2
    obtain ⟨j, l0, h3, h4⟩ := hx.back i l b h1 h2
    exact hH.apart j l0 b h3 h4
  · intro i l b h1 h2
    obtain ⟨j, l0, h3, h4⟩ := hx.back i l b h1 h2
    exact hH.lt j l0 b h3 h4

theorem Ext.trans (h : Ext I I') (h' : Ext I' I'') : Ext I I'' := by
  refine ⟨fun k l hk => h'.sub k l (h.sub k l hk), fun i l b h1 h2 => ?_⟩
  obtain ⟨j, l0, h3, h4⟩ := h'.back i l b h1 h2
  exact h.back j l0 b h3 h4

theorem wantL_R {wt : Want} {a : AV} {v : Value} {k : AV → List (Option Blk) → Prop} (hH : HRel tid F I hp w) (hv : LeafR w (Own F I) I v a) (h : wantL wt hp a k) :
    ∃ a' hp' I', k a' hp' ∧ HRel tid F I' hp' w ∧ Ext I I' ∧ LeafR w (Own F I') I' v a' := by
  by_cases e : a = .nil
  · subst e
    cases hv
    cases wt with
    | as => exact ⟨_, hp, I, h, hH, .refl I, .nil⟩
    | row t => exact ⟨_, hp, I, h, hH, .refl I, .row0 t⟩
    | own t =>
      simp only [wantL, appC_eq] at h
      obtain ⟨I', h1, h2, h3, _⟩ := want_new hH t
      exact ⟨_, _, I', h, h1, h2, h3⟩
  · have h' : k a hp := by cases a <;> first | exact h | exact absurd rfl e
    exact ⟨a, hp, I, h', hH, .refl I, hv⟩
theorem wantLs_R : ∀ {l : List AV} {ws : List Want} {hp : List (Option Blk)} {I : Im} {vs : List Value} {k : List AV → List Want → List (Option Blk) → Prop}, HRel tid F I hp w → All2 (LeafR w (Own F I) I) vs l → wantLs ws hp l k →
    ∃ l' ws' hp' I', k l' ws' hp' ∧ HRel tid F I' hp' w ∧ Ext I I' ∧ All2 (LeafR w (Own F I') I') vs l'
  | [], ws, hp, I, vs, k, hH, hv, h => by
    cases hv
    exact ⟨[], ws, hp, I, h, hH, .refl I, .nil⟩
  | a :: l, ws, hp, I, _, k, hH, hv, h => by
    cases hv with | cons ha hv =>
    cases ws with
    | nil =>
      obtain ⟨a', hp1, I1, h1, h2, h3, h4⟩ := wantL_R (wt := .as) (k := fun a hp => wantLs [] hp l fun l ws hp => k (a :: l) ws hp) hH ha h
      obtain ⟨l', ws', hp2, I2, h5, h6, h7, h8⟩ := wantLs_R h2 (hv.mono fun _ _ h => h3.leaf h) h1
      exact ⟨_, ws', hp2, I2, h5, h6, h3.trans h7, .cons (h7.leaf h4) h8⟩
    | cons wt ws =>
      obtain ⟨a', hp1, I1, h1, h2, h3, h4⟩ := wantL_R (k := fun a hp => wantLs ws hp l fun l ws hp => k (a :: l) ws hp) hH ha h
      obtain ⟨l', ws', hp2, I2, h5, h6, h7, h8⟩ := wantLs_R h2 (hv.mono fun _ _ h => h3.leaf h) h1
      exact ⟨_, ws', hp2, I2, h5, h6, h3.trans h7, .cons (h7.leaf h4) h8⟩
theorem wantV1_R {ws : List Want} {a : AV} {v : Value} {k : AV → List Want → List (Option Blk) → Prop} (hH : HRel tid F I hp w) (hv : ValR w (Own F I) I v a) (h : wantV1 ws hp a k) :
    ∃ a' ws' hp' I', k a' ws' hp' ∧ HRel tid F I' hp' w ∧ Ext I I' ∧ ValR w (Own F I') I' v a' := by
  by_cases e : ∃ fs, a = .agg fs
  · obtain ⟨fs, rfl⟩ := e
    obtain ⟨cs, rfl, hall⟩ := hv
    obtain ⟨l', ws', hp2, I2, h5, h6, h7, h8⟩ := wantLs_R hH hall h
    exact ⟨_, ws', hp2, I2, h5, h6, h7, ⟨cs, rfl, h8⟩⟩
  · cases ws with
    | nil =>
      have h' : k a [] hp := by cases a <;> first | exact h | exact (e ⟨_, rfl⟩).elim
      exact ⟨a, [], hp, I, h', hH, .refl I, hv⟩
    | cons wt ws =>
      have h' : wantL wt hp a fun a hp => k a ws hp := by cases a <;> first | exact h | exact (e ⟨_, rfl⟩).elim
      by_cases e2 : a = .nil
      · subst e2
        obtain ⟨a', hp1, I1, h1, h2, h3, h4⟩ := wantL_R hH (show LeafR w (Own F I) I v .nil from hv) h'
        exact ⟨a', ws, hp1, I1, h1, h2, h3, .leaf h4⟩
      · have h2 : k a ws hp := by cases a <;> first | exact h' | exact (e2 rfl).elim
        exact ⟨a, ws, hp, I, h2, hH, .refl I, hv⟩
theorem wantVs_R : ∀ {l : List AV} {ws : List Want} {hp : List (Option Blk)} {I : Im} {vs : List Value} {k : List AV → List Want → List (Option Blk) → Prop}, HRel tid F I hp w → All2 (ValR w (Own F I) I) vs l → wantVs ws hp l k →
    ∃ l' ws' hp' I', k l' ws' hp' ∧ HRel tid F I' hp' w ∧ Ext I I' ∧ All2 (ValR w (Own F I') I') vs l'
  | [], ws, hp, I, vs, k, hH, hv, h => by
    cases hv
    exact ⟨[], ws, hp, I, h, hH, .refl I, .nil⟩
  | a :: l, ws, hp, I, _, k, hH, hv, h => by
    cases hv with | cons ha hv =>
    obtain ⟨a', ws1, hp1, I1, h1, h2, h3, h4⟩ := wantV1_R (k := fun a ws hp => wantVs ws hp l fun l ws hp => k (a :: l) ws hp) hH ha h
    obtain ⟨l', ws', hp2, I2, h5, h6, h7, h8⟩ := wantVs_R h2 (hv.mono fun _ _ h => h3.val h) h1
    exact ⟨_, ws', hp2, I2, h5, h6, h3.trans h7, .cons (h7.val h4) h8⟩

theorem lent_sel (hH : HRel tid F I hp w) {J ids : List Nat} : LentOK I J (Own F (sel I J)) ids := by
  intro id _ hpos l g hl hg ho
  rcases ho with ho | ⟨i, l', hi, hg'⟩
  · exact hH.apart id l g hl hg ho
  · obtain ⟨id', l0, hJ, h0, rfl⟩ := sel_some hi
    have := hH.inj id id' l l0 g hl h0 hg (reset_has.1 hg')
    subst this
    exact pos_none hpos (List.mem_of_getElem? hJ)
theorem sel_own {J : List Nat} {b : Nat} (h : Own F (sel I J) b) : Own F I b := by
  rcases h with h | ⟨i, l, hi, hb⟩
  · exact .inl h
  · obtain ⟨id, l0, _, h0, rfl⟩ := sel_some hi
    exact .inr ⟨id, l0, h0, reset_has.1 hb⟩
theorem mapV1_R' (hH : HRel tid F I hp w) {J : List Nat} {lend : Bool} {x y : AV} {l : List Nat} (h1 : (mapV1 J lend x).run hp = some (y, l)) {v : Value} (ha : ValR w (Own F I) I v x) : ValR1 w (Own F (sel I J)) (sel I J) v y := by
  by_cases et : ∃ vs, x = .tup vs
  · obtain ⟨us, rfl⟩ := et
    cases us with
    | nil =>
      obtain ⟨rfl, _⟩ := run_ret (show (Rd.ret (AV.tup [])).run hp = _ from h1)
      obtain ⟨cs, rfl, hc⟩ := ha
      cases hc
      exact ⟨rfl, rfl⟩
    | cons u us =>
      obtain ⟨rfl, _⟩ := run_ret (show (Rd.ret AV.any).run hp = _ from h1)
      trivial
  · rw [ValR.is1 (fun vs h => et ⟨vs, h⟩)] at ha
    exact mapV1_R hH (fun _ h => sel_own h) (fun _ => lent_sel hH) h1 ha
theorem gMapLs_R (hH : HRel tid F I hp w) {J : List Nat} : ∀ {xs ys : List AV} {ws ws' : List Want} {l : List Nat}, (gMapLs J ws xs).run hp = some ((ys, ws'), l) → ∀ {vs : List Value}, All2 (LeafR w (Own F I) I) vs xs → All2 (LeafR w (Own F (sel I J)) (sel I J)) vs ys
  | [], ys, ws, ws', l, hrun, vs, hv => by
    obtain ⟨h1, _⟩ := run_ret hrun
    injection h1 with h1 _
    subst h1
    cases hv; exact .nil
  | x :: xs, ys, ws, ws', l, hrun, vs, hv => by
    cases hv with | cons ha hv =>
    cases ws with
    | nil =>
      simp only [gMapLs] at hrun
      obtain ⟨y, _, _, h1, h2, _⟩ := run_bind hrun
      obtain ⟨⟨ys', _⟩, _, _, h3, h4, _⟩ := run_bind h2
      obtain ⟨h5, _⟩ := run_ret h4
      injection h5 with h5 _
      subst h5
      exact .cons (mapL_R hH (fun _ h => sel_own h) (fun _ => lent_sel hH) h1 ha) (gMapLs_R hH h3 hv)
    | cons wt ws =>
      simp only [gMapLs] at hrun
      obtain ⟨y, _, _, h1, h2, _⟩ := run_bind hrun
      obtain ⟨⟨ys', _⟩, _, _, h3, h4, _⟩ := run_bind h2
      obtain ⟨h5, _⟩ := run_ret h4
      injection h5 with h5 _
      subst h5
      exact .cons (mapL_R hH (fun _ h => sel_own h) (fun _ => lent_sel hH) h1 ha) (gMapLs_R hH h3 hv)
theorem gMapV1_R (hH : HRel tid F I hp w) {J : List Nat} {x y : AV} {ws ws' : List Want} {l : List Nat} (hrun : (gMapV1 J ws x).run hp = some ((y, ws'), l)) {v : Value} (hv : ValR w (Own F I) I v x) : ValR1 w (Own F (sel I J)) (sel I J) v y := by
  by_cases e : ∃ fs, x = .agg fs
  · obtain ⟨fs, rfl⟩ := e
    obtain ⟨cs, rfl, hall⟩ := hv
    simp only [gMapV1] at hrun
    obtain ⟨⟨fs', _⟩, _, _, h1, h2, _⟩ := run_bind hrun
    obtain ⟨h5, _⟩ := run_ret h2
    injection h5 with h5 _
    subst h5
    exact ⟨cs, rfl, gMapLs_R hH h1 hall⟩
  · cases ws with
    | nil =>
      have hrun' : ((mapV1 J false x).bind fun a => .ret (a, ([] : List Want))).run hp = some ((y, ws'), l) := by
        cases x <;> first | exact hrun | exact (e ⟨_, rfl⟩).elim
      obtain ⟨y', _, _, h1, h2, _⟩ := run_bind hrun'
      obtain ⟨h5, _⟩ := run_ret h2
      injection h5 with h5 _
      subst h5
      exact mapV1_R' hH h1 hv
    | cons wt ws =>
      have hrun' : ((mapV1 J (lendOf wt) x).bind fun a => .ret (a, ws)).run hp = some ((y, ws'), l) := by
        cases x <;> first | exact hrun | exact (e ⟨_, rfl⟩).elim
      obtain ⟨y', _, _, h1, h2, _⟩ := run_bind hrun'
      obtain ⟨h5, _⟩ := run_ret h2
      injection h5 with h5 _
      subst h5
      exact mapV1_R' hH h1 hv
theorem gMapVs_R (hH : HRel tid F I hp w) {J : List Nat} : ∀ {xs ys : List AV} {ws ws' : List Want} {l : List Nat}, (gMapVs J ws xs).run hp = some ((ys, ws'), l) → ∀ {vs : List Value}, All2 (ValR w (Own F I) I) vs xs → All2 (ValR1 w (Own F (sel I J)) (sel I J)) vs ys
  | [], ys, ws, ws', l, hrun, vs, hv => by
    obtain ⟨h1, _⟩ := run_ret hrun
    injection h1 with h1 _
    subst h1
    cases hv; exact .nil
  | x :: xs, ys, ws, ws', l, hrun, vs, hv => by
    cases hv with | cons ha hv =>
    simp only [gMapVs] at hrun
    obtain ⟨⟨y, ws1⟩, _, _, h1, h2, _⟩ := run_bind hrun
    obtain ⟨⟨ys', _⟩, _, _, h3, h4, _⟩ := run_bind h2
    obtain ⟨h5, _⟩ := run_ret h4
    injection h5 with h5 _
    subst h5
    exact .cons (gMapV1_R hH h1 ha) (gMapVs_R hH h3 hv)

theorem headsB_spec : ∀ {J : List Nat} {l : List AV}, headsB J l = true → ∀ (i : Nat) (a : AV), l[i]? = some a → ∃ id, (a = .ptr id 0 ∨ ∃ n, a = .own id n) ∧ J[i]? = some id
  | J, [], _, i, a, h => by simp at h
  | [], b :: l, hh, _, _, _ => by simp [headsB] at hh
  | j :: J, b :: l, hh, i, a, h => by
    cases b with
    | ptr id off =>
      cases off with
      | succ off => cases hh
      | zero =>
        simp only [headsB] at hh
        split at hh
        · rename_i hb
          cases i with
          | zero => simp at h; subst h; exact ⟨id, .inl rfl, by simp [Nat.eq_of_beq_eq_true hb]⟩
          | succ i => simpa using headsB_spec hh i a (by simpa using h)
        · cases hh
    | own id n =>
      simp only [headsB] at hh
      split at hh
      · rename_i hb
        cases i with
        | zero => simp at h; subst h; exact ⟨id, .inr ⟨n, rfl⟩, by simp [Nat.eq_of_beq_eq_true hb]⟩
        | succ i => simpa using headsB_spec hh i a (by simpa using h)
      · cases hh
    | _ => cases hh

theorem gather_R {first : List AV} {ws : List Want} {vals : List AV} {vs : List Value} {K : List AV → List Blk → Prop} (hH : HRel tid F I hp w) (hv : All2 (ValR w (Own F I) I) vs vals) (h : gather hp first ws vals K) :
    ∃ vals' bs I', K vals' bs ∧ HRel tid F I' (bs.map some) w ∧ All2 (ValR1 w (Own F I') I') vs vals' ∧ (∀ i l b, I' i = some l → l.has b → ∃ j l0, I j = some l0 ∧ l0.has b) ∧
      (∀ (i : Nat) (a : AV), first[i]? = some a → ∃ id, (a = .ptr id 0 ∨ ∃ n, a = .own id n) ∧ ∀ l, I id = some l → l ≠ .dead ∧ I' i = some (reset l)) := by
  obtain ⟨vals1, ws1, hp1, I1, h1, hH1, hx, hv1⟩ := wantVs_R hH hv h
  split at h1
  · rename_i vals' bs _ hrun
    obtain ⟨J0, _, _, _, r2, _⟩ := run_bind hrun
    obtain ⟨J, _, _, _, r3, _⟩ := run_bind r2
    obtain ⟨⟨vals2, _⟩, _, _, r4, r5, _⟩ := run_bind r3
    obtain ⟨⟨bs2, vers⟩, _, _, r6, r7, _⟩ := run_bind r5
    simp only at r7
    split at r7
    · rename_i hb
      simp only [Bool.and_eq_true] at hb
      obtain ⟨e, _⟩ := run_ret r7
      injection e with e1 e2
      subst e1; subst e2
      rw [fcT_eq, fcBs_eq] at h1
      refine ⟨_, _, sel I1 J, h1, mapBs_R hH1 (fun b hb => .inl hb) (fun b hb i l hi hl => ?_) hb.1 r6, gMapVs_R hH1 r4 hv1, fun i l b hi hl => ?_, fun i a ha => ?_⟩
      · obtain ⟨id, l0, _, h0, rfl⟩ := sel_some hi
        exact hH1.apart id l0 b h0 (reset_has.1 hl) hb
      · obtain ⟨id, l0, _, h0, rfl⟩ := sel_some hi
        exact hx.back id l0 b h0 (reset_has.1 hl)
      · obtain ⟨id, hid, hJ⟩ := headsB_spec hb.2 i a ha
        refine ⟨id, hid, fun l hl => ?_⟩
        have h2 := hx.sub id l hl
        obtain ⟨_, _, h3⟩ := mapBs_get (O' := Own F (sel I1 J)) hH1 (fun _ h => sel_own h) r6
        obtain ⟨_, l0, _, h4, _, _, h5⟩ := h3 i id hJ
        rw [h2] at h4
        injection h4 with h4
        subst h4
        exact ⟨h5, by unfold sel; rw [hJ]; simp [h2]⟩
    · exact (run_fail r7).elim
  · exact h1.elim
end
end Go.Proofs.YtnhipiedjekkpaaGreatDoor.AX
end
section
namespace Go.Proofs.YtnhipiedjekkpaaGreatDoor.AX
open Go Go.RowKit

theorem anysC_eq {R : Sort _} : ∀ (n : Nat) (k : List AV → R), anysC n k = k (List.replicate n .any)
  | 0, k => rfl
  | n + 1, k => by simp only [anysC, anysC_eq n]; rfl
theorem undefsC_eq {R : Sort _} : ∀ (n : Nat) (k : List AV → R), undefsC n k = k (List.replicate n (.tup []))
  | 0, k => rfl
  | n + 1, k => by simp only [undefsC, undefsC_eq n]; rfl
def puts (tm : List AV) : List (Tmp × Want) → List AV → List AV
  | t :: ts, v :: vs => puts (tm.set t.1 v) ts vs
  | _, _ => tm
theorem putsC_eq {R : Sort _} : ∀ (ts : List (Tmp × Want)) (vs tm : List AV) (k : List AV → R), putsC tm ts vs k = k (puts tm ts vs)
  | [], vs, tm, k => by cases vs <;> rfl
  | t :: ts, [], tm, k => rfl
  | t :: ts, v :: vs, tm, k => by simp only [putsC, setC_eq, putsC_eq ts, puts]
theorem takeC_eq {R : Sort _} : ∀ (n : Nat) (l : List Blk) (k : List Blk → List Blk → R), takeC n l k = k (l.take n) (l.drop n)
  | 0, l, k => by simp [takeC]
  | n + 1, [], k => by simp [takeC]
  | n + 1, b :: l, k => by simp only [takeC, takeC_eq n]; rfl
def mkSt (n : Nat) (keep : List (Tmp × Want)) (vs : List AV) (bs : List Blk) : St := ⟨puts (List.replicate n .any) keep vs, bs.map some⟩
theorem mkA_eq {n : Nat} {keep : List (Tmp × Want)} {vs : List AV} {bs : List Blk} {k : St → Prop} : mkA n keep vs bs k = k (mkSt n keep vs bs) := by
  unfold mkA mkSt
  rw [anysC_eq, putsC_eq]

section
variable {cx : Cx} {w0 w : World} {E F : Nat → Prop} {I : Im} {s : St} {a : Act}

theorem puts_R {R : Value → AV → Prop} {l : List Value} : ∀ {ts : List (Tmp × Want)} {vs tm : List AV}, All2 R l tm → All2 R (ts.map fun p => l.getD p.1 undef) vs → All2 R l (puts tm ts vs)
  | [], vs, tm, h, _ => by cases vs <;> exact h
  | t :: ts, [], tm, h, _ => h
  | t :: ts, v :: vs, tm, h, hv => by
    cases hv with | cons ha hv =>
    simp only [puts]
    refine puts_R ?_ hv
    have := h.set t.1 ha
    have e : l.set t.1 (l.getD t.1 undef) = l := by
      apply List.ext_getElem?
      intro k
      rw [List.getElem?_set]
      split
      · rename_i e
        subst e
        split
        · rename_i hlt; simp [hlt]
        · rename_i hlt; rw [List.getElem?_eq_none (Nat.le_of_not_lt hlt)]
      · rfl
    rw [e] at this
    exact this
theorem norm_R {n : Nat} {keep : List (Tmp × Want)} {K : List AV → List Blk → Prop} (hR : Rel cx.tid w0 E F I s a w) (h : normA n keep s K) : ∃ vs bs I', K vs bs ∧ Rel cx.tid w0 E F I' (mkSt n keep vs bs) a w := by
  unfold normA at h
  split at h
  · rename_i hn
    have hn := Nat.eq_of_beq_eq_true hn
    have hv : All2 (ValR w (Own F I) I) (keep.map fun p => a.tmps.toList.getD p.1 undef) (keep.map fun p => s.tm.getD p.1 .any) := by
      refine .of (by simp) fun i u x hu hx => ?_
      simp only [List.getElem?_map, Option.map_eq_some_iff] at hu hx
      obtain ⟨p, hp, rfl⟩ := hu
      obtain ⟨q, hq, rfl⟩ := hx
      rw [hp] at hq; injection hq with hq; subst hq
      have := hR.ev (.tmp p.1)
      simpa [Act.eval, evalA, List.getD_eq_getElem?_getD] using this
    obtain ⟨vs, bs, I', h1, h2, h3, h4, _⟩ := gather_R hR.toH hv h
    refine ⟨vs, bs, I', h1, ⟨hR.defers, ?_, h2.hp, h2.inj, h2.apart, fun i l b hi hb => ?_, hR.out, hR.os, hR.tape, hR.output, hR.size, hR.kept, h2.glob⟩⟩
    · refine puts_R (.of ?_ fun i u x hu hx => ?_) (h3.mono fun _ _ h => .of1 h)
      · rw [hR.tm.length, hn]; simp
      · simp [List.getElem?_replicate] at hx
        rw [← hx.2]; exact trivial
    · obtain ⟨j, l0, h5, h6⟩ := h4 i l b hi hb
      exact hR.place j l0 b h5 h6
  · exact h.elim

theorem rounds_R {fix : List Nat} {L : Loops} (ok : CxOK cx) (tok : TOK cx) {n b : Nat} {c : Code} {keep left : List (Tmp × Want)} (hl : LoopsOK cx fix L b c) (hc : clearC fix c = true) {K : Ex → List AV → List Blk → Prop} {A : Nat → Option Value} (hA : ∀ d, A d ≠ none → d ∈ fix)
    {Q : Exit → Act → World → Prop} (hQ : ∀ e I a w vs bs, Rel cx.tid w0 E F I (mkSt n left vs bs) a w → Kp A a → K e vs bs → Q (toExit e) a w) : ∀ (m : Nat) (vs : List AV) (bs : List Blk) (I : Im) (a : Act) (w : World), roundsA cx L n b c keep left K m vs bs → Rel cx.tid w0 E F I (mkSt n keep vs bs) a w → Kp A a → Code.rounds cx.P c Q m a w
  | 0, _, _, _, _, _, h, _, _ => h.elim
  | m + 1, vs, bs, I, a, w, h, hR, hk => by
    simp only [roundsA, bodyA, mkA_eq] at h
    rw [rounds_succ]
    refine wpA_sound ok tok c b hl hc _ _ h w0 E F A I a w _ hA hR hk fun e I' s' a' w' r1 r2 r3 => ?_
    cases e with
    | norm =>
      obtain ⟨vs', bs', I2, h2, hR2⟩ := norm_R r1 r3
      exact rounds_R ok tok hl hc hA hQ m vs' bs' I2 a' w' h2 hR2 r2
    | exit id =>
      obtain ⟨vs', bs', I2, h2, hR2⟩ := norm_R r1 r3
      exact hQ (.exit id) I2 a' w' vs' bs' hR2 r2 h2
    | ret =>
      obtain ⟨vs', bs', I2, h2, hR2⟩ := norm_R r1 r3
      exact hQ .ret I2 a' w' vs' bs' hR2 r2 h2
theorem loop_snd {fix : List Nat} {L : Loops} (ok : CxOK cx) (tok : TOK cx) {n b : Nat} {c : Code} {keep left : List (Tmp × Want)} {sum : List AV → List Blk → (Ex → List AV → List Blk → Prop) → Prop} (hl : LoopsOK cx fix L b c) (hc : clearC fix c = true)
    (hsum : ∀ vs bs K, sum vs bs K → ∃ m, roundsA cx L n b c keep left K m vs bs) {K : Ex → St → Prop} (h : loopA n keep left sum s K) : Snd cx fix (.loop c) s K := by
  intro w0 E F A I a w Q hA hR hk hQ
  obtain ⟨vs, bs, I', h1, hR'⟩ := norm_R hR h
  obtain ⟨m, hm⟩ := hsum vs bs _ h1
  exact wp_loop_rounds m (rounds_R ok tok hl hc hA (fun e I a w vs bs r1 r2 r3 => hQ e I _ a w r1 r2 (by rw [mkA_eq] at r3; exact r3)) m vs bs I' a w hm hR' hk)

/-! ### Functions -/
def rv (tmps : Array Value) : ResultVar → Sem Value
  | .tmp t => pure (tmps.getD t undef)
  | .cell p t => do loadVar t (← asAddr (tmps.getD p undef))
theorem results_eq (fn : Func) (tmps : Array Value) : results fn tmps = (do let vs ← fn.results.mapM (rv tmps); pure (if h : vs.size = 1 then vs[0] else .tuple vs)) := by
  unfold results
  congr 1
theorem noTup_spec {x y : AV} (h : noTup x = some y) : y = x ∧ ∀ vs, x ≠ .tup vs := by
  cases x <;> first | (injection h with h; exact ⟨h.symm, fun vs e => nomatch e⟩) | cases h
theorem cellA_R (hR : Rel cx.tid w0 E F I s a w) {p : Tmp} {t : TypeId} {x : AV} (h : cellA cx s.hp t (s.tm.getD p .any) = some x) : ∃ v, (do loadVar t (← asAddr (a.tmps.getD p undef)) : Sem Value).run cx.P w = .ok v w ∧ ValR w (Own F I) I v x := by
  have hx := hR.ev (.tmp p)
  simp only [Act.eval, evalA] at hx
  generalize s.tm.getD p .any = y at h hx
  cases y with
  | ptr id off =>
    have hp := hR.hp id
    simp only [cellA] at h
    generalize s.hp.getD id none = ob at h hp
    cases ob with
    | none => cases h
    | some b =>
      cases b with
      | box cells =>
        obtain ⟨l0, hl0, g, cs, ty, rfl, hg, hall⟩ := hp
        obtain ⟨v, h1, h2⟩ := load_R (P := cx.P) (base := 0) (b := g) hall (fun j u hu => by rw [Nat.zero_add, cell_of_row w g j cs ty _ hg]; simpa using hu) h
        refine ⟨v, ?_, h2⟩
        rw [hx.ptr.2.2.1 g hl0]
        rw [Nat.zero_add] at h1
        simpa [asAddr] using h1
      | _ => cases h
  | _ => cases h
theorem resOne_R (hR : Rel cx.tid w0 E F I s a w) {r : ResultVar} {x : AV} (h : resOne cx s r = some x) : (∀ vs, x ≠ .tup vs) ∧ ∃ v, (rv a.tmps r).run cx.P w = .ok v w ∧ ValR1 w (Own F I) I v x := by
  cases r with
  | tmp t =>
    have := hR.ev (.tmp t)
    simp only [Act.eval, evalA] at this
    obtain ⟨rfl, hno⟩ := noTup_spec h
    rw [ValR.is1 hno] at this
    exact ⟨hno, _, rfl, this⟩
  | cell p t =>
    simp only [resOne, Option.bind_eq_some_iff] at h
    obtain ⟨y, h1, h2⟩ := h
    obtain ⟨rfl, hno⟩ := noTup_spec h2
    obtain ⟨v, h3, h4⟩ := cellA_R hR h1
    rw [ValR.is1 hno] at h4
    exact ⟨hno, v, h3, h4⟩
theorem resList_R (hR : Rel cx.tid w0 E F I s a w) : ∀ {l : List ResultVar} {xs : List AV}, resList cx s l = some xs → xs.length = l.length ∧ (∀ x ∈ xs, ∀ vs, x ≠ .tup vs) ∧ ∃ us : List Value, (l.mapM (rv a.tmps)).run cx.P w = .ok us w ∧ All2 (ValR1 w (Own F I) I) us xs
  | [], xs, h => by
    injection h with h; subst h
    exact ⟨rfl, fun x hx => (nomatch hx), [], by simp, .nil⟩
  | r :: l, xs, h => by
    simp only [resList, Option.bind_eq_some_iff] at h
    obtain ⟨x, h1, ys, h2, h3⟩ := h
    injection h3 with h3; subst h3
    obtain ⟨hno, v, h4, h5⟩ := resOne_R hR h1
    obtain ⟨hl, hnos, us, h6, h7⟩ := resList_R hR h2
    refine ⟨by simp [hl], fun y hy => ?_, v :: us, ?_, .cons h5 h7⟩
    · cases hy with
      | head => exact hno
      | tail _ hy => exact hnos y hy
    · rw [List.mapM_cons]
      simp only [Sem.run_bind]
      rw [h4]
      simp only [Result.andThen_ok, h6, Sem.run_pure]
theorem resA_R {fn : Func} (hR : Rel cx.tid w0 E F I s a w) {x : AV} (h : resA cx fn s = some x) : ∃ v, (results fn a.tmps).run cx.P w = .ok v w ∧ ValR w (Own F I) I v x ∧ ((fn.results.size = 1 ∧ ∀ vs, x ≠ .tup vs) ∨ (fn.results.size ≠ 1 ∧ ∃ vs, x = .tup vs)) := by
  have key : ∀ us : List Value, (fn.results.toList.mapM (rv a.tmps)).run cx.P w = .ok us w → (results fn a.tmps).run cx.P w = .ok (if h : us.toArray.size = 1 then us.toArray[0] else .tuple us.toArray) w := by
    intro us hus
    rw [results_eq, Array.mapM_eq_mapM_toList]
    simp only [Sem.run_bind, map_eq_pure_bind, bind_assoc, pure_bind]
    rw [hus]
    simp
  unfold resA at h
  split at h
  · rename_i v hv
    injection h with h; subst h
    obtain ⟨hl, hno, us, h1, h2⟩ := resList_R hR hv
    cases h2 with | cons h2 h3 =>
    cases h3
    exact ⟨_, key _ h1, .of1 h2, .inl ⟨by simpa using hl.symm, hno _ (.head _)⟩⟩
  · rename_i vs hne hv
    injection h with h; subst h
    obtain ⟨hlen, hno, us, h1, h2⟩ := resList_R hR hv
    have hl : us.length ≠ 1 := fun e => by
      have := h2.length
      rw [e] at this
      match vs, hne, this with
      | [v], hne, _ => exact hne v rfl
    have e : (results fn a.tmps).run cx.P w = .ok (.tuple us.toArray) w := by rw [key _ h1]; simp [hl]
    refine ⟨_, e, ⟨us, rfl, h2⟩, .inr ⟨fun e => hl ?_, _, rfl⟩⟩
    rw [h2.length, hlen]; simpa using e
  · cases h
end
end Go.Proofs.YtnhipiedjekkpaaGreatDoor.AX
end
section
namespace Go.Proofs.YtnhipiedjekkpaaGreatDoor.AX
open Go Go.RowKit

def ptrAt (i : Nat) : Option AV → Bool
  | some (.ptr j 0) => Nat.beq j i
  | _ => false
def capAt (q : Nat) : Option AV → Option AV
  | some (.fn _ caps) => caps[q]?
  | _ => none
def ptrB (args : List AV) (fs : List Fst) (i : Nat) : Blk → Bool
  | .box _ | .bld _ => (match fs[i]? with
    | some (.slot p) => ptrAt i args[p]?
    | some (.cap p q) => ptrAt i (capAt q args[p]?)
    | _ => false)
  | _ => true
def ptrsB (args : List AV) (fs : List Fst) : Nat → List Blk → Bool
  | _, [] => true
  | i, b :: l => match ptrB args fs i b with
    | true => ptrsB args fs (i + 1) l
    | false => false
def ownAt (i : Nat) : Option AV → Bool
  | some (.own j 0) => Nat.beq j i
  | _ => false
def rowTy : Option Blk → Option Ty
  | some (.rowb 0 t _) => some t
  | _ => none
def sameTyB (x y : Option Ty) : Bool :=
  match x with
  | some t => tyEq t y
  | none => false
def sameB (args : List AV) (fs : List Fst) (hp hp' : List Blk) : List Nat → Bool
  | [] => true
  | i :: l => match fs[i]? with
    | some (.slot p) => ownAt i args[p]? && sameTyB (rowTy hp[i]?) (rowTy hp'[i]?) && sameB args fs hp hp' l
    | _ => false
def slotsOf : List Fst → List Nat
  | [] => []
  | .slot p :: l => p :: slotsOf l
  | .res _ :: l => slotsOf l
  | .cap p _ :: l => p :: slotsOf l
theorem slotsOf_mem {fs : List Fst} {i p : Nat} (h : fs[i]? = some (.slot p)) : p ∈ slotsOf fs := by
  induction fs generalizing i with
  | nil => simp at h
  | cons a fs ih =>
    cases i with
    | zero => simp at h; subst h; exact .head _
    | succ i =>
      have := ih (i := i) (by simpa using h)
      cases a with
      | slot q => exact .tail _ this
      | res r => exact this
      | cap _ _ => exact .tail _ this
theorem slotsOf_mem' {fs : List Fst} {i p q : Nat} (h : fs[i]? = some (.cap p q)) : p ∈ slotsOf fs := by
  induction fs generalizing i with
  | nil => simp at h
  | cons a fs ih =>
    cases i with
    | zero => simp at h; subst h; exact .head _
    | succ i =>
      have := ih (i := i) (by simpa using h)
      cases a with
      | slot q => exact .tail _ this
      | res r => exact this
      | cap _ _ => exact .tail _ this
theorem slotsOf_map (l : List Nat) : slotsOf (l.map .slot) = l := by
  induction l with
  | nil => rfl
  | cons a l ih => simp only [List.map_cons, slotsOf, ih]
def kindB : Blk → Blk → Bool
  | .box _, .box _ | .rowb .., .rowb .. | .bld _, .bld _ => true
  | _, _ => false
def kindsB : List Blk → List Blk → Bool
  | [], [] => true
  | a :: l, b :: m => match kindB a b with
    | true => kindsB l m
    | false => false
  | _, _ => false
def isTup : AV → Bool
  | .tup _ => true
  | _ => false
def formS (fn : Func) (args : List AV) (fs : List Fst) (hp : List Blk) (ans : Ans) : Bool :=
  sameB args fs hp ans.hp ans.same && ptrsB args fs 0 hp && kindsB hp ans.hp && (match isTup ans.res, Nat.beq fn.results.size 1 with
    | true, false | false, true => true
    | _, _ => false) && Nat.ble args.length fn.ntmps
def noSame : List Nat → Bool
  | [] => true
  | _ => false
def formB (fn : Func) (args : List AV) (hp : List Blk) (ans : Ans) : Bool := noSame ans.same && formS fn args (fsOf args) hp ans
theorem tyEq_eq {t : Ty} {u : Option Ty} (h : tyEq t u = true) : u = some t := by
  cases u with
  | none => cases t <;> cases h
  | some u => cases t <;> cases u <;> first | rfl | cases h
theorem sameB_spec {args : List AV} {fs : List Fst} {hp hp' : List Blk} : ∀ {l : List Nat}, sameB args fs hp hp' l = true → ∀ i, hasN l i = true → ∃ p t xs xs', fs[i]? = some (.slot p) ∧ args[p]? = some (.own i 0) ∧ hp[i]? = some (.rowb 0 t xs) ∧ hp'[i]? = some (.rowb 0 t xs')
  | [], _, i, h => by cases h
  | j :: l, hh, i, h => by
    simp only [sameB] at hh
    split at hh
    · rename_i p hp1
      simp only [Bool.and_eq_true] at hh
      obtain ⟨⟨h1, h2⟩, h3⟩ := hh
      simp only [hasN] at h
      split at h
      · rename_i hb
        have := Nat.eq_of_beq_eq_true hb
        subst this
        unfold ownAt at h1
        split at h1
        · rename_i k hk
          have := Nat.eq_of_beq_eq_true h1
          subst this
          unfold sameTyB at h2
          split at h2
          · rename_i t ht
            have h2 := tyEq_eq h2
            unfold rowTy at ht h2
            split at ht
            · rename_i t1 xs hx
              injection ht with ht; subst ht
              split at h2
              · rename_i t2 xs' hx'
                injection h2 with h2; subst h2
                exact ⟨p, _, _, _, hp1, hk, hx, hx'⟩
              · cases h2
            · cases ht
          · cases h2
        · cases h1
      · exact sameB_spec h3 i h
    · cases hh
theorem sameOK_spec {s : St} {fs : List Fst} : ∀ {l : List Nat}, sameOK s fs l = true → ∀ i p, hasN l i = true → fs[i]? = some (.slot p) → ∃ id n t xs, s.tm.getD p .any = .own id n ∧ s.hp.getD id none = some (.rowb n t xs)
  | [], _, i, p, h, _ => by cases h
  | j :: l, hh, i, p, h, hf => by
    simp only [sameOK] at hh
    split at hh
    · rename_i q hq
      split at hh
      · rename_i hc
        simp only [hasN] at h
        split at h
        · rename_i hb
          have := Nat.eq_of_beq_eq_true hb
          subst this
          rw [hf] at hq; injection hq with hq; injection hq with hq; subst hq
          unfold curB at hc
          split at hc
          · rename_i id n hs
            split at hc
            · rename_i m t xs hx
              have := Nat.eq_of_beq_eq_true hc
              subst this
              exact ⟨id, _, _, _, hs, hx⟩
            · cases hc
          · cases hc
        · exact sameOK_spec hh i p h hf
      · cases hh
    · cases hh
theorem ownsB_spec {hp : List (Option Blk)} : ∀ {l : List AV}, ownsB hp l = true → ∀ (i : Nat) (id n : Nat), l[i]? = some (.own id n) → ∃ m t xs, hp.getD id none = some (.rowb m t xs)
  | [], _, i, id, n, h => by simp at h
  | a :: l, hh, i, id, n, h => by
    cases i with
    | zero =>
      simp at h
      subst h
      simp only [ownsB] at hh
      split at hh
      · rename_i m t xs hx; exact ⟨m, t, xs, hx⟩
      · cases hh
    | succ i =>
      have ht : ownsB hp l = true := by
        cases a <;> first | exact hh | skip
        simp only [ownsB] at hh
        split at hh
        · exact hh
        · cases hh
      exact ownsB_spec ht i id n (by simpa using h)
theorem ptrsB_spec {args : List AV} {pl : List Fst} : ∀ {l : List Blk} {k : Nat}, ptrsB args pl k l = true → ∀ (i : Nat) (b : Blk), l[i]? = some b → ptrB args pl (k + i) b = true
  | [], _, _, i, b, h => by simp at h
  | c :: l, k, hh, i, b, h => by
    simp only [ptrsB] at hh
    split at hh
    · rename_i hc
      cases i with
      | zero => simp at h; subst h; exact hc
      | succ i => rw [show k + (i + 1) = k + 1 + i from by omega]; exact ptrsB_spec hh i b (by simpa using h)
    · cases hh
theorem kindsB_spec : ∀ {l m : List Blk}, kindsB l m = true → l.length = m.length ∧ ∀ (i : Nat) (b : Blk), l[i]? = some b → ∃ c, m[i]? = some c ∧ kindB b c = true
  | [], [], _ => ⟨rfl, fun i b h => by simp at h⟩
  | a :: l, b :: m, hh => by
    simp only [kindsB] at hh
    split at hh
    · rename_i hk
      obtain ⟨h1, h2⟩ := kindsB_spec hh
      refine ⟨by simp [h1], fun i c h => ?_⟩
      cases i with
      | zero => simp at h; subst h; exact ⟨b, by simp, hk⟩
      | succ i => simpa using h2 i c (by simpa using h)
    · cases hh
  | [], _ :: _, hh => by cases hh
  | _ :: _, [], hh => by cases hh

section
variable {cx : Cx}
theorem fun_meetsS (ok : CxOK cx) (tok : TOK cx) {L : Loops} {f : Nat} {fn : Func} {c : Code} {args : List AV} {hp : List Blk} {fs : List Fst} {ws : List Want} {ans : Ans} (hf : cx.P.funcs[f]? = some fn) (hb : fn.body = some c)
    (hl : LoopsOK cx (slotsOf fs) L 0 c) (hc : clearC (slotsOf fs) c = true) (hform : formS fn args fs hp ans = true)
    (h : (∀ p, ans.pre = some p → p) → funS cx L fn args hp fs ans.same ws fun vs x y => (∀ p, ans.given = some p → p) ∧ vs = compsOf ans.res ∧ x = ans.hp ∧ y = ans.extra) : Meets cx f args hp ans := by
  intro F I w vals hH hv hpre
  simp only [formS, Bool.and_eq_true] at hform
  obtain ⟨⟨⟨⟨hsm, hptr⟩, hkind⟩, htup⟩, hlen⟩ := hform
  have hsm := sameB_spec hsm
  have hlen := Nat.le_of_ble_eq_true hlen
  obtain ⟨hkl, hkind⟩ := kindsB_spec hkind
  have h := h hpre
  unfold funS at h
  rw [hb] at h
  simp only [initA, undefsC_eq, fcT_eq, appC_eq] at h
  have hvl : vals.length = args.length := hv.length
  refine calls_of_wp hf hb ?_
  have hR : Rel cx.tid w (fun b => ∃ i l, I i = some l ∧ l.has b) F I ⟨args ++ List.replicate (fn.ntmps - args.length) (.tup []), hp.map some⟩ { tmps := vals.toArray ++ Array.replicate (fn.ntmps - vals.toArray.size) undef, defers := [] } w := by
    refine ⟨rfl, ?_, hH.hp, hH.inj, hH.apart, fun i l b h1 h2 => ⟨.inl ⟨i, l, h1, h2⟩, hH.lt i l b h1 h2⟩, hH.out, rfl, rfl, rfl, Nat.le_refl _, fun _ _ _ => rfl, hH.glob⟩
    simp only [Array.toList_append, Array.toList_replicate, List.size_toArray, hvl]
    refine All2.append (hv.mono fun _ _ h => .of1 h) (.of (by simp) fun i u x hu hx => ?_)
    simp only [List.getElem?_replicate] at hu hx
    split at hu
    · rename_i hi
      rw [if_pos hi] at hx
      injection hu with hu; injection hx with hx
      subst hu; subst hx
      exact ⟨[], rfl, .nil⟩
    · cases hu
  have hk : Kp (fun d => if hasN (slotsOf fs) d = true then vals[d]? else none) { tmps := vals.toArray ++ Array.replicate (fn.ntmps - vals.toArray.size) undef, defers := [] } := by
    intro d v hd
    simp only at hd
    split at hd
    · have hlt : d < vals.length := (List.getElem?_eq_some_iff.1 hd).1
      simp only [Array.getElem?_append, List.size_toArray, hlt, if_true]
      simpa using hd
    · cases hd
  refine wpA_sound ok tok c 0 hl hc _ _ h w _ F _ I _ w _ (fun d hd => ?_) hR hk fun e I' s' a' w' r1 r2 r3 => ?_
  · split at hd
    · rename_i hn; exact hasN_iff.1 hn
    · exact absurd rfl hd
  have fin : endS cx fn fs ans.same hp.length ws (fun vs x y => (∀ p, ans.given = some p → p) ∧ vs = compsOf ans.res ∧ x = ans.hp ∧ y = ans.extra) s' → a'.defers = [] ∧ ∃ v, (results fn a'.tmps).run cx.P w' = .ok v w' ∧ ∃ v_1 I'_1, Ending.returned v = .returned v_1 ∧ ValR w' (Own F I'_1) I'_1 v_1 ans.res ∧ HRel cx.tid F I'_1 ((ans.hp ++ ans.extra).map some) w' ∧ (∀ p, ans.given = some p → p) ∧
      (∀ i, i < hp.length → (∀ b, I i = some (.box b) → I'_1 i = some (.box b)) ∧ (∀ b v, I i = some (.bld b v) → ∃ v', I'_1 i = some (.bld b v')) ∧ (∀ n t v, I i = some (.row n t v) → ∃ n' t' v', I'_1 i = some (.row n' t' v') ∧ (hasN ans.same i = true → n' = 0 ∧ t' = t ∧ (n = 0 → v' = v)))) ∧
      (∀ i l b, I'_1 i = some l → l.has b → (∃ j l0, I j = some l0 ∧ l0.has b) ∨ w.heap.size ≤ b) ∧
      w'.os = w.os ∧ w'.tape = w.tape ∧ w'.output = w.output ∧ w.heap.size ≤ w'.heap.size ∧ (∀ b, b < w.heap.size → (∀ i l, I i = some l → ¬ l.has b) → w'.heap[b]? = w.heap[b]?) := by
    intro hend
    unfold endS at hend
    split at hend
    · exact hend.elim
    · rename_i x hx
      split at hend
      · exact hend.elim
      rename_i hsok
      simp only [Bool.and_eq_true] at hsok
      have hown := ownsB_spec hsok.2
      have hsok := sameOK_spec hsok.1
      obtain ⟨v, hres, hvx, hshape⟩ := resA_R r1 hx
      obtain ⟨us, husv⟩ : ∃ us : List Value, All2 (ValR w' (Own F I') I') us (compsOf x) ∧ (isTup x = true → v = .tuple us.toArray) ∧ (isTup x = false → us = [v]) := by
        by_cases e : ∃ vs, x = .tup vs
        · obtain ⟨vs, rfl⟩ := e
          obtain ⟨us, rfl, hus⟩ := hvx
          exact ⟨us, hus.mono fun _ _ h => .of1 h, fun _ => rfl, fun h => nomatch h⟩
        · have e1 : compsOf x = [x] := by cases x <;> first | rfl | exact (e ⟨_, rfl⟩).elim
          have e2 : isTup x = false := by cases x <;> first | rfl | exact (e ⟨_, rfl⟩).elim
          rw [e1]
          exact ⟨[v], .cons hvx .nil, fun h => (by rw [e2] at h; cases h), fun _ => rfl⟩
      obtain ⟨hus, hut, hun⟩ := husv
      obtain ⟨vs, bs, I2, hQ, hH2, hv2, hback, hfirst⟩ := gather_R r1.toH hus hend
      rw [takeC_eq] at hQ
      obtain ⟨hg, rfl, hx1, hx2⟩ := hQ
      have hbs : bs = ans.hp ++ ans.extra := by rw [← hx1, ← hx2, List.take_append_drop]
      rw [hbs] at hH2
      refine ⟨r1.defers, v, hres, v, I2, rfl, ?_, hH2, hg, fun i hi => ?_, fun i l b h1 h2 => ?_, r1.os, r1.tape, r1.output, r1.size, fun b hb hn => r1.kept b hb fun ⟨i, l, h1, h2⟩ => hn i l h1 h2⟩
      · have hsame : isTup x = isTup ans.res := by
          rcases hshape with ⟨h1, h2⟩ | ⟨h1, vs, rfl⟩
          · have e2 : isTup x = false := by cases x <;> first | rfl | exact (h2 _ rfl).elim
            rw [e2]
            rw [h1] at htup
            cases hi : isTup ans.res with
            | false => rfl
            | true => rw [hi] at htup; cases htup
          · cases hi : isTup ans.res with
            | true => rfl
            | false =>
              have : Nat.beq fn.results.size 1 = false := by
                cases hq : Nat.beq fn.results.size 1 with
                | false => rfl
                | true => exact absurd (Nat.eq_of_beq_eq_true hq) h1
              rw [hi, this] at htup
              cases htup
        cases hi : isTup ans.res with
        | true =>
          rw [hi] at hsame
          obtain ⟨ys, hys⟩ : ∃ ys, ans.res = .tup ys := by cases hr : ans.res <;> rw [hr] at hi <;> first | exact ⟨_, rfl⟩ | cases hi
          rw [hys] at hv2 ⊢
          exact ⟨us, hut hsame, hv2⟩
        | false =>
          rw [hi] at hsame
          have e1 : compsOf ans.res = [ans.res] := by cases hr : ans.res <;> rw [hr] at hi <;> first | rfl | cases hi
          rw [e1, hun hsame] at hv2
          cases hv2 with | cons h1 _ =>
          exact .of1 h1
      · have hbi : hp[i]? = some hp[i] := List.getElem?_eq_getElem hi
        obtain ⟨c', hc1, hc2⟩ := hkind i _ hbi
        have hE := hH.hp i
        have e1 : (hp.map some).getD i none = some hp[i] := by simp [List.getD_eq_getElem?_getD, hi]
        rw [e1] at hE
        obtain ⟨l0, hl0, hB0⟩ := hE
        have hE2 := hH2.hp i
        have hi2 : i < ans.hp.length := by omega
        have e2 : ((ans.hp ++ ans.extra).map some).getD i none = some c' := by
          rw [List.getD_eq_getElem?_getD, List.getElem?_map, List.getElem?_append_left hi2, hc1]; rfl
        rw [e2] at hE2
        obtain ⟨l2, hl2, hB2⟩ := hE2
        have hp0 := ptrsB_spec hptr i _ hbi
        rw [Nat.zero_add] at hp0
        have slot : ∀ (p : Nat) (y : AV), fs[i]? = some (.slot p) → args[p]? = some y → ∃ (id : Nat) (u : Value), vals[p]? = some u ∧ ValR1 w (Own F I) I u y ∧ (s'.tm.getD p .any = .ptr id 0 ∨ ∃ n, s'.tm.getD p .any = .own id n) ∧ ValR w' (Own F I') I' u (s'.tm.getD p .any) ∧ (∀ l, I' id = some l → l ≠ .dead ∧ I2 i = some (reset l)) := by
          intro p y hp1 hy
          obtain ⟨u, hu, hur⟩ := hv.get hy
          obtain ⟨id, hid, hall⟩ := hfirst i (s'.tm.getD p .any) (by rw [List.getElem?_map, hp1]; rfl)
          have hA : a'.tmps[p]? = some u := r2 p u (by
            simp only
            rw [if_pos (hasN_iff.2 (slotsOf_mem hp1))]; exact hu)
          have hev := r1.ev (.tmp p)
          simp only [Act.eval, evalA] at hev
          have : a'.tmps.getD p undef = u := by simp [hA]
          rw [this] at hev
          exact ⟨id, u, hu, hur, hid, hev, hall⟩
        have point : ∀ (isP : ptrB args fs i hp[i] = (match fs[i]? with | some (.slot p) => ptrAt i args[p]? | some (.cap p q) => ptrAt i (capAt q args[p]?) | _ => false)),
            ∃ (p id : Nat) (u : Value), (True ∨ p = 0) ∧ LeafR w (Own F I) I u (.ptr i 0) ∧ (LeafR w' (Own F I') I' u (.ptr id 0) ∨ ∃ m t v, I' id = some (.row m t v)) ∧ (∀ l, I' id = some l → l ≠ .dead ∧ I2 i = some (reset l)) := by
          intro isP
          rw [isP] at hp0
          split at hp0
          · rename_i p hp1
            have : args[p]? = some (.ptr i 0) := by
              unfold ptrAt at hp0
              split at hp0
              · rename_i j hj; rw [hj, Nat.eq_of_beq_eq_true hp0]
              · cases hp0
            obtain ⟨id, u, hu, hur, hid, hev, hall⟩ := slot p _ hp1 this
            refine ⟨p, id, u, .inl trivial, hur, ?_, hall⟩
            rcases hid with e | ⟨n, e⟩
            · rw [e] at hev; exact .inl hev
            · obtain ⟨m, t, xs, hx⟩ := hown i id n (by rw [List.getElem?_map, hp1]; simp only [Option.map_some, firstV]; rw [e])
              have hq := r1.hp id
              rw [hx] at hq
              obtain ⟨l0, hl0, v0, vs0, rfl, _⟩ := hq
              exact .inr ⟨_, _, _, hl0⟩
          · rename_i p q hp1
            obtain ⟨g, caps, ha, hc⟩ : ∃ g caps, args[p]? = some (.fn g caps) ∧ caps[q]? = some (.ptr i 0) := by
              unfold ptrAt at hp0
              split at hp0
              · rename_i j hj
                unfold capAt at hj
                split at hj
                · rename_i g caps hg; exact ⟨g, caps, hg, by rw [hj, Nat.eq_of_beq_eq_true hp0]⟩
                · cases hj
              · cases hp0
            obtain ⟨u, hu, hur⟩ := hv.get ha
            obtain ⟨cs, hcs, hall0⟩ := ValR.fn (.of1 hur)
            obtain ⟨z, hz, hzr⟩ := hall0.get hc
            obtain ⟨id, hid, hall⟩ := hfirst i (capV q (s'.tm.getD p .any)) (by rw [List.getElem?_map, hp1]; rfl)
            have hA : a'.tmps[p]? = some u := r2 p u (by
              simp only
              rw [if_pos (hasN_iff.2 (slotsOf_mem' hp1))]; exact hu)
            have hev := r1.ev (.tmp p)
            simp only [Act.eval, evalA] at hev
            have hud : a'.tmps.getD p undef = u := by simp [hA]
            rw [hud] at hev
            obtain ⟨g', caps', hs'⟩ : ∃ g' caps', s'.tm.getD p .any = .fn g' caps' := by
              cases e : s'.tm.getD p .any with
              | fn g' caps' => exact ⟨g', caps', rfl⟩
              | _ => rw [e] at hid; simp only [capV] at hid; rcases hid with h | ⟨_, h⟩ <;> cases h
            rw [hs'] at hev hid
            obtain ⟨cs', hcs', hall1⟩ := ValR.fn hev
            have ecs : cs' = cs := by rw [hcs] at hcs'; injection hcs' with _ _ h; exact (Array.toList_inj.2 h).symm
            subst ecs
            have hq : ∃ y, caps'[q]? = some y ∧ LeafR w' (Own F I') I' z y := by
              obtain ⟨y, hy, hyr⟩ := hall1.get' hz
              exact ⟨y, hy, hyr⟩
            obtain ⟨y, hy, hyr⟩ := hq
            have ey : capV q (.fn g' caps') = y := by
              show caps'.getD q .any = y
              rw [List.getD_eq_getElem?_getD, hy]; rfl
            rw [ey] at hid
            refine ⟨p, id, z, .inl trivial, hzr, ?_, hall⟩
            rcases hid with e | ⟨n, e⟩
            · rw [e] at hyr; exact .inl hyr
            · obtain ⟨m, t, xs, hx⟩ := hown i id n (by rw [List.getElem?_map, hp1]; simp only [Option.map_some, firstV, hs', ey]; rw [e])
              have hq := r1.hp id
              rw [hx] at hq
              obtain ⟨l0, hl0, v0, vs0, rfl, _⟩ := hq
              exact .inr ⟨_, _, _, hl0⟩
          · cases hp0
        refine ⟨fun b hI => ?_, fun b z hI => ?_, fun n t z hI => ?_⟩
        · rw [hl0] at hI; injection hI with hI; subst hI
          cases hq : hp[i] with
          | box cells =>
            obtain ⟨p, id, u, _, h1, h2, h3⟩ := point (by rw [hq]; rfl)
            rw [hq] at hc2
            cases c' with
            | box cells' =>
              obtain ⟨g, cs, ty, rfl, _⟩ := hB2
              rcases h2 with h2 | ⟨_, _, _, h2⟩
              case inr => have := (h3 _ h2).2; rw [hl2] at this; cases this
              obtain ⟨z0, z1, z2, _⟩ := (ValR.leaf h2).ptr
              obtain ⟨l, hl⟩ := Option.isSome_iff_exists.1 z0
              obtain ⟨_, h5⟩ := h3 l hl
              rw [hl2] at h5
              injection h5 with h5
              cases l with
              | box g' =>
                injection h5 with h5; subst h5
                have e3 := z2 g hl
                have e4 := (ValR.leaf h1).ptr.2.2.1 b hl0
                rw [e3] at e4
                injection e4 with e4; injection e4 with e4; injection e4 with e4
                rw [hl2, e4]
              | _ => cases h5
            | _ => cases hc2
          | rowb n t xs => rw [hq] at hB0; obtain ⟨_, _, e, _⟩ := hB0; cases e
          | bld z => rw [hq] at hB0; obtain ⟨_, _, _, _, _, e, _⟩ := hB0; cases e
          | dead => rw [hq] at hB0; cases hB0
        · rw [hl0] at hI; injection hI with hI; subst hI
          cases hq : hp[i] with
          | bld zz =>
            obtain ⟨p, id, u, _, h1, h2, h3⟩ := point (by rw [hq]; rfl)
            rw [hq] at hc2
            cases c' with
            | bld cells' =>
              obtain ⟨g, v', _, _, _, rfl, _⟩ := hB2
              rcases h2 with h2 | ⟨_, _, _, h2⟩
              case inr => have := (h3 _ h2).2; rw [hl2] at this; cases this
              obtain ⟨z0, z1, _, z2⟩ := (ValR.leaf h2).ptr
              obtain ⟨l, hl⟩ := Option.isSome_iff_exists.1 z0
              obtain ⟨_, h5⟩ := h3 l hl
              rw [hl2] at h5
              injection h5 with h5
              cases l with
              | bld g' v'' =>
                injection h5 with h5 h6; subst h5
                have e3 := z2 g v'' hl rfl
                have e4 := (ValR.leaf h1).ptr.2.2.2 b z hl0 rfl
                rw [e3] at e4
                injection e4 with e4; injection e4 with e4; injection e4 with e4
                exact ⟨v', by rw [hl2, e4]⟩
              | _ => cases h5
            | _ => cases hc2
          | rowb n t xs => rw [hq] at hB0; obtain ⟨_, _, e, _⟩ := hB0; cases e
          | box z => rw [hq] at hB0; obtain ⟨_, _, _, e, _⟩ := hB0; cases e
          | dead => rw [hq] at hB0; cases hB0
        · rw [hl0] at hI; injection hI with hI; subst hI
          cases hq : hp[i] with
          | rowb n' t' xs =>
            rw [hq] at hc2
            cases c' with
            | rowb n2 t2 xs2 =>
              obtain ⟨v', _, rfl, _⟩ := hB2
              refine ⟨_, _, _, hl2, fun hs => ?_⟩
              obtain ⟨p, t1, xs1, xs1', hp1, hy, hx1, hx1'⟩ := hsm i hs
              rw [hbi, hq] at hx1
              cases hx1
              rw [hc1] at hx1'
              cases hx1'
              rw [hq] at hB0
              obtain ⟨_, _, e0, _⟩ := hB0
              cases e0
              refine ⟨rfl, rfl, fun _ => ?_⟩
              obtain ⟨id, u, hu, hur, hid, hev, hall⟩ := slot p _ hp1 hy
              obtain ⟨id', n', t', xs', hs1, hs2⟩ := hsok i p hs hp1
              rw [hs1] at hid hev
              rcases hid with e | ⟨n2, e⟩
              · cases e
              injection e with e1 e2
              subst e1; subst e2
              have hq2 := r1.hp id'
              rw [hs2] at hq2
              obtain ⟨l2, hl2', v2, vs2, rfl, _⟩ := hq2
              have h7 := (hall _ hl2').2
              rw [hl2] at h7
              injection h7 with h7; injection h7 with _ _ h7
              have h8 := ((ValR.own hev).2.2 _ _ _ hl2').2 rfl
              have h9 := ((ValR.own (show ValR w (Own F I) I u (.own i 0) from .of1 hur)).2.2 _ _ _ hl0).2 rfl
              rw [h7, ← h8, h9]
            | _ => cases hc2
          | bld z => rw [hq] at hB0; obtain ⟨_, _, _, _, _, e, _⟩ := hB0; cases e
          | box z => rw [hq] at hB0; obtain ⟨_, _, _, e, _⟩ := hB0; cases e
          | dead => rw [hq] at hB0; cases hB0
      · obtain ⟨j, l0, h3, h4⟩ := hback i l b h1 h2
        exact (r1.place j l0 b h3 h4).1
  cases e with
  | norm => exact fin r3
  | ret => exact fin r3
  | exit id => exact r3.elim
theorem fun_meets (ok : CxOK cx) (tok : TOK cx) {L : Loops} {f : Nat} {fn : Func} {c : Code} {args : List AV} {hp : List Blk} {ws : List Want} {ans : Ans} (hf : cx.P.funcs[f]? = some fn) (hb : fn.body = some c)
    (hl : LoopsOK cx (ptrsOf args 0) L 0 c) (hc : clearC (ptrsOf args 0) c = true) (hform : formB fn args hp ans = true)
    (h : (∀ p, ans.pre = some p → p) → funA cx L fn args hp ws fun vs x y => (∀ p, ans.given = some p → p) ∧ vs = compsOf ans.res ∧ x = ans.hp ∧ y = ans.extra) : Meets cx f args hp ans := by
  simp only [formB, Bool.and_eq_true] at hform
  have hs : ans.same = [] := by
    have := hform.1
    unfold noSame at this
    split at this
    · assumption
    · cases this
  have e : slotsOf (fsOf args) = ptrsOf args 0 := slotsOf_map _
  refine fun_meetsS (ws := ws) ok tok hf hb (by rw [e]; exact hl) (by rw [e]; exact hc) hform.2 fun hp => ?_
  rw [hs]
  exact h hp
end
end Go.Proofs.YtnhipiedjekkpaaGreatDoor.AX
end
