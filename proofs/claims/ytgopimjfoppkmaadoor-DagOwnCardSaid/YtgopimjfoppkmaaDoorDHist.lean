/- slices.Backward over revisions, walked by hand: its iterator stops (the kit's contract of a range over a function), and what it hands a round. -/
import Derived.RangeFuncNested
import Derived.RangeFuncBox
import Derived.RangeFuncBound
import Derived.RangeFuncCalls
import Derived.RangeFuncLeaves
import Derived.Shelf.Abstract
import Derived.WalkKit
import Derived.OwnWalkIn
import Derived.TacticsInMore
import Derived.LoopNIn
import Derived.LoopIn
import Derived.Maps.AppendAt
import Derived.Test.YtgopimjfoppkmaaDoorD0
import Derived.Test.YtgopimjfoppkmaaDoorD6
namespace Go.Proofs.YtgopimjfoppkmaaDoor.D
open Go.RowKit Go.Shelf Go.Proofs.YtgopimjfoppkmaaDoorW.PrintWords Go.Proofs.YtgopimjfoppkmaaDoorW.PrintLast
attribute [local go_sem] Oper.semAt_some

/-- The revisions of which k rounds have told, the last one first. -/
def dn (n k : Nat) : List (Fin n) := (List.finRange n).reverse.take k
theorem dn_zero (n : Nat) : dn n 0 = [] := rfl
theorem dn_succ {n q : Nat} (h : q < n) : dn n (n - q) = dn n (n - (q + 1)) ++ [⟨q, h⟩] := by
  have e : n - q = (n - (q + 1)) + 1 := by omega
  have hl : n - (q + 1) < (List.finRange n).reverse.length := by simp; omega
  unfold dn
  rw [e, ← List.take_concat_get (h := hl), List.concat_eq_append]
  congr 2
  rw [List.getElem_reverse, List.getElem_finRange]
  apply Fin.ext
  simp
  omega
theorem dn_len {n k : Nat} (h : k ≤ n) : (dn n k).length = k := by simp [dn, h]
/-- A revision's value: its parents' slice is el's. -/
def rv (l0 : List S43) (el : Nat → Option Addr × Nat) (j : Nat) : Value := .agg #[.int .i64 (rd_T43 l0 (j : Int)).f0, .string (rd_T43 l0 (j : Int)).f1, .int .i64 (rd_T43 l0 (j : Int)).f2, .slice (el j).1 (rd_T43 l0 (j : Int)).f3.length (el j).2]
/-- The graph's rows, with the parents' slices, below n₀. -/
def Els (n₀ : Nat) (w : World) (A0 : Option Addr) (l0 : List S43) (el : Nat → Option Addr × Nat) : Prop :=
  ∀ j, j < l0.length → ∃ ad : Addr, A0 = some ad ∧ (ad.add (j * 4)).block < n₀ ∧ w.cell? (ad.add (j * 4)) = some (.int .i64 (rd_T43 l0 (j : Int)).f0) ∧ w.cell? ⟨(ad.add (j * 4)).block, (ad.add (j * 4)).off + 1, none⟩ = some (.string (rd_T43 l0 (j : Int)).f1) ∧ w.cell? ⟨(ad.add (j * 4)).block, (ad.add (j * 4)).off + 2, none⟩ = some (.int .i64 (rd_T43 l0 (j : Int)).f2) ∧ w.cell? ⟨(ad.add (j * 4)).block, (ad.add (j * 4)).off + 3, none⟩ = some (.slice (el j).1 (rd_T43 l0 (j : Int)).f3.length (el j).2)
theorem Els.below {n₀ : Nat} {A B : World} {A0 : Option Addr} {l0 : List S43} {el : Nat → Option Addr × Nat} (h : Els n₀ A A0 l0 el) (hb : Below n₀ A B) : Els n₀ B A0 l0 el := by
  intro j hj
  obtain ⟨ad, e, hlt, h0, h1, h2, h3⟩ := h j hj
  have hk : (ad.add (j * 4)).block < n₀ := hlt
  exact ⟨ad, e, hlt, (hb.cell hk).trans h0, (hb.cell (p := ⟨_, _, none⟩) hk).trans h1, (hb.cell (p := ⟨_, _, none⟩) hk).trans h2, (hb.cell (p := ⟨_, _, none⟩) hk).trans h3⟩
/-- .. of any graph that can be read. -/
theorem els_of {w : World} {A0 : Option Addr} {l0 : List S43} (h : Kd.C k43 w A0 l0.length l0) : ∃ el, Els w.heap.size w A0 l0 el ∧ ∀ j, j < l0.length → (rd_T43 l0 (j : Int)).f3.length ≤ (el j).2 ∧ Kd.C (Kd.int .i64) w (el j).1 (rd_T43 l0 (j : Int)).f3.length (rd_T43 l0 (j : Int)).f3 := by
  have hx : ∀ j : Nat, ∃ e : Option Addr × Nat, j < l0.length → ∃ ad : Addr, (A0 = some ad ∧ (ad.add (j * 4)).block < w.heap.size ∧ w.cell? (ad.add (j * 4)) = some (.int .i64 (rd_T43 l0 (j : Int)).f0) ∧ w.cell? ⟨(ad.add (j * 4)).block, (ad.add (j * 4)).off + 1, none⟩ = some (.string (rd_T43 l0 (j : Int)).f1) ∧ w.cell? ⟨(ad.add (j * 4)).block, (ad.add (j * 4)).off + 2, none⟩ = some (.int .i64 (rd_T43 l0 (j : Int)).f2) ∧ w.cell? ⟨(ad.add (j * 4)).block, (ad.add (j * 4)).off + 3, none⟩ = some (.slice e.1 (rd_T43 l0 (j : Int)).f3.length e.2)) ∧ (rd_T43 l0 (j : Int)).f3.length ≤ e.2 ∧ Kd.C (Kd.int .i64) w e.1 (rd_T43 l0 (j : Int)).f3.length (rd_T43 l0 (j : Int)).f3 := by
    intro j
    by_cases hj : j < l0.length
    · obtain ⟨ad, A3, c3, e, h0, h1, h2, h3, hl, hc⟩ := at_T43 h (j : Int) (by omega) (by omega)
      simp only [Int.toNat_natCast] at h0 h1 h2 h3
      exact ⟨(A3, c3), fun _ => ⟨ad, ⟨e, World.block_lt_of_cell? w (ad.add (j * 4)) h0, h0, h1, h2, h3⟩, hl, hc⟩⟩
    · exact ⟨(none, 0), fun h => absurd h hj⟩
  have hx' := fun j => Classical.choose_spec (hx j)
  refine ⟨fun j => Classical.choose (hx j), fun j hj => ?_, fun j hj => ?_⟩
  · obtain ⟨ad, h, _⟩ := hx' j hj
    exact ⟨ad, h⟩
  · obtain ⟨ad, _, h⟩ := hx' j hj
    exact h
/-- What a round keeps: what lay below n₀, and the box of the slice. -/
def KB (n₀ Bs : Nat) (W W' : World) : Prop := Below n₀ W W' ∧ W'.heap[Bs]? = W.heap[Bs]?
theorem KB.refl (n₀ Bs : Nat) (W : World) : KB n₀ Bs W W := ⟨Below.refl _ _, rfl⟩
theorem KB.trans {n₀ Bs : Nat} {A B C : World} (h : KB n₀ Bs A B) (k : KB n₀ Bs B C) : KB n₀ Bs A C := ⟨h.1.trans k.1, k.2.trans h.2⟩
theorem KB.putObj {n₀ Bs : Nat} {w : World} (hn : n₀ ≤ w.heap.size) (hB : Bs < w.heap.size) (W : World) (l : Nat) (o o' : Obj) (hl : w.heap.size ≤ l) (h : W.heap[l]? = some o) (hc : o.isCells = false) (hw : o.isWalk = false) : KB n₀ Bs W (W.putObj l o') :=
  ⟨belowK_b hn W l o o' hl h hc hw, World.putObj_heap_other (by omega)⟩
set_option maxRecDepth 1000000 in
set_option maxHeartbeats 4000000 in
theorem back1_in (F : Fence) (n : Nat) (hf : F.fn 38) (hro : F.round = none) (hn : 1 ≤ n) (l Bs n₀ : Nat) (A0 : Option Addr) (c0 : Nat) (l0 : List S43) (hlen : l0.length ≤ 9223372036854775807) (el : Nat → Option Addr × Nat) (J Jx : List (Fin l0.length) → World → Prop)
    (hY : ∀ pre x W, J pre W → pre.length < l0.length → YieldAt F (n - 1) Tryd.prog l #[.int .i64 ((x : Fin l0.length).val : Int), rv l0 el x.val] W fun e W' =>
      (e = .returned (.bool true) ∧ J (pre ++ [x]) W' ∧ KB n₀ Bs W W') ∨ (e = .returned (.bool false) ∧ Jx (pre ++ [x]) W'))
    (W : World) (hBs : Boxed W Bs 22 (.slice A0 l0.length c0)) (hE : Els n₀ W A0 l0 el) (h0 : J [] W) :
    CallsIn F n Tryd.prog 38 #[.func (.yield l) #[] #[], .pointer (some ⟨Bs, 0, none⟩)] W fun e W' => (∃ v, e = .returned v) ∧
      ((∃ ys, ys = dn l0.length l0.length ∧ J ys W') ∨ (∃ pre, (∃ k, k ≤ l0.length ∧ pre = dn l0.length k) ∧ Jx pre W')) := by
  replace hE := Aside0.mk hE
  refine callsIn_of_wp Tryd.func38 rfl hf ?_ hro
  simp only [Tryd.ntmps38, List.size_toArray, List.length_cons, List.length_nil, Nat.reduceAdd, Nat.reduceSub, Array.replicate_succ, Array.replicate_zero, List.push_toArray, List.append_toArray, List.nil_append, List.cons_append]
  have hBc := hBs.cell
  gi_wp2
  gi_loopw [3] (fun i wr => ∃ m : Nat, m ≤ l0.length ∧ i = .int .i64 ((m : Int) - 1) ∧ Aside0 (J (dn l0.length (l0.length - m)) wr) ∧ Aside0 (KB n₀ Bs W wr))
    (fun i _ => (intOf i + 1).toNat)
  case atStart => exact ⟨l0.length, Nat.le_refl _, rfl, ⟨by rw [Nat.sub_self]; exact h0⟩, ⟨KB.refl _ _ _⟩⟩
  case round =>
    obtain ⟨m, hm, rfl, hJs, hnx⟩ := hrel
    cases m with
    | zero =>
      have hneg : ¬ (0 : Int) ≤ ((0 : Nat) : Int) - 1 := by decide
      gi_wp2
      go_end0
      exact ⟨⟨_, rfl⟩, .inl hJs.out⟩
    | succ q =>
      have hq : q < l0.length := by omega
      have e : ((q + 1 : Nat) : Int) - 1 = (q : Int) := by omega
      rw [e]
      have hge : (0 : Int) ≤ (q : Int) := by omega
      have hltz : (q : Int) < (l0.length : Int) := by omega
      have hBs' : wr.cell? ⟨Bs, 0, none⟩ = some (.slice A0 l0.length c0) := Boxed.cell (hnx.out.2.trans hBs)
      obtain ⟨ad, eA, hlt, hx0, hx1, hx2, hx3⟩ := hE.out.below hnx.out.1 q hq
      cases eA
      obtain ⟨fn, tmps, assign, body, hy, hR⟩ := hY _ ⟨q, hq⟩ wr hJs.out (by rw [dn_len (by omega)]; omega)
      dsimp only [rv] at hy
      gi_wp2
      refine hR.mono ?_
      rintro e W3 (⟨rfl, hJ3, hk3⟩ | ⟨rfl, hJx3⟩)
      · gi_wp2
        go_roundw
        case rel => exact ⟨q, by omega, rfl, ⟨by rw [dn_succ hq]; exact hJ3⟩, ⟨hnx.out.trans hk3⟩⟩
        case measure => simp only [intOf]; omega
      · gi_wp2
        refine bodyPost_ret (results_none rfl _ _ _) rfl ?_
        exact ⟨⟨_, rfl⟩, .inr ⟨_, ⟨l0.length - q, by omega, (dn_succ hq).symm⟩, hJx3⟩⟩
set_option maxRecDepth 1000000 in
set_option maxHeartbeats 1000000 in
/-- slices.Backward: the slice is boxed; the function value captures the box. -/
theorem back_in (F : Fence) (n : Nat) (hf : F.fn 24) (hro : F.round = none) (a : Option Addr) (len cap : Nat) (w : World) :
    CallsIn F n Tryd.prog 24 #[.slice a len cap] w fun e w' => e = .returned (.func (.func 38) #[] #[.pointer (some ⟨w.heap.size, 0, none⟩)]) ∧ w' = w.alloc (.cells #[.slice a len cap] 22) := by
  refine callsIn_of_wp Tryd.func24 rfl hf ?_ hro
  simp only [Tryd.ntmps24, List.size_toArray, List.length_cons, List.length_nil, Nat.reduceAdd, Nat.reduceSub, Array.replicate_succ, Array.replicate_zero, List.push_toArray, List.append_toArray, List.nil_append, List.cons_append]
  gi_wp2
  go_ret
  exact ⟨rfl, rfl⟩
/-- What slices.Backward hands back stops: all revisions, the last one first; or the first few of them. -/
theorem back_stops (F : Fence) (n : Nat) (hf : F.fn 38) (hro : F.round = none) (hn : 1 ≤ n) (Bs n₀ : Nat) (A0 : Option Addr) (c0 : Nat) (l0 : List S43) (hlen : l0.length ≤ 9223372036854775807) (el : Nat → Option Addr × Nat) (w : World) (hn₀ : n₀ ≤ w.heap.size)
    (hc : Boxed w Bs 22 (.slice A0 l0.length c0)) (hE : Els n₀ w A0 l0 el) :
    SeqStopsK F n Tryd.prog 38 #[.pointer (some ⟨Bs, 0, none⟩)] (fun x : Fin l0.length => #[Value.int .i64 (x.val : Int), rv l0 el x.val]) (KB n₀ Bs) (fun ys => ys = dn l0.length l0.length)
      (fun pre => ∃ k, k ≤ l0.length ∧ pre = dn l0.length k) l0.length w := fun l J Jx W hW _ _ hY h0 =>
  back1_in F n hf hro hn l Bs n₀ A0 c0 l0 hlen el J Jx hY W ((hW.block Bs hc.lt).trans hc) (hE.below (hW.mono hn₀)) h0
end Go.Proofs.YtgopimjfoppkmaaDoor.D
namespace Go.Proofs.YtgopimjfoppkmaaDoor.D
open Go.RowKit Go.Shelf Go.Proofs.YtgopimjfoppkmaaDoorW.PrintWords Go.Proofs.YtgopimjfoppkmaaDoorW.PrintLast
attribute [local go_sem] Oper.semAt_some

/-- The IDs of a page's revisions among those that were told of. -/
def histF (l0 : List S43) (a1 : ByteArray) (pre : List (Fin l0.length)) : List Int := (pre.filter fun x => (rd_T43 l0 (x.val : Int)).f1.toList == a1.toList).map fun x => (rd_T43 l0 (x.val : Int)).f0
theorem histF_hit (l0 : List S43) (a1 : ByteArray) (pre : List (Fin l0.length)) {x : Fin l0.length} (h : (rd_T43 l0 (x.val : Int)).f1.toList = a1.toList) : histF l0 a1 (pre ++ [x]) = histF l0 a1 pre ++ [(rd_T43 l0 (x.val : Int)).f0] := by simp [histF, h]
theorem histF_miss (l0 : List S43) (a1 : ByteArray) (pre : List (Fin l0.length)) {x : Fin l0.length} (h : ¬ (rd_T43 l0 (x.val : Int)).f1.toList = a1.toList) : histF l0 a1 (pre ++ [x]) = histF l0 a1 pre := by simp [histF, h]
theorem histF_len (l0 : List S43) (a1 : ByteArray) (pre : List (Fin l0.length)) : (histF l0 a1 pre).length ≤ pre.length := by
  unfold histF; rw [List.length_map]; exact List.length_filter_le _ _
def dag_History.f (k : Nat) (l0 : List S43) (a1 : ByteArray) : Option (List Int) := (dag_Check.f k l0).bind fun t => if t = 0 then some (histF l0 a1 (dn l0.length l0.length)) else some []
theorem dag_History.mono : ∀ a0 a1 k, LeO (dag_History.f k a0 a1) (dag_History.f (k + 1) a0 a1) := by
  intro a0 a1 k r h
  unfold dag_History.f at h ⊢
  cases hc : dag_Check.f k a0 with
  | none => rw [hc] at h; cases h
  | some t => rw [hc] at h; rw [dag_Check.mono a0 k t hc]; exact h
theorem check_short {k : Nat} {l0 : List S43} (h : dag_Check.f k l0 = some 0) : l0.length ≤ 1000 := by
  unfold dag_Check.f at h
  by_cases c : (l0.length : Int) > 1000
  · rw [if_pos c] at h; cases h
  · omega
theorem cellsAt_own {β : Type} (B : Nat) (cs : Array Value) (t : TypeId) : Own (fun (_ : β) W => W.heap[B]? = some (.cells cs t (0, 0))) := fun _ X _ _ hs hg hrow =>
  (hg.block B (Array.getElem?_eq_some_iff.1 hs).1 (fun e' => by obtain ⟨o, ho, hc⟩ := hrow B e'.symm; rw [hs] at ho; cases ho; cases hc)).trans hs
theorem info_int : (Tryd.prog.info? 3).map (fun i => (i.zero, i.size, i.bytes)) = some (some (.int .i64 0), 1, 8) := by kernel_rfl
set_option maxHeartbeats 8000000 in
set_option maxRecDepth 1000000 in
theorem dag_History.calls (k : Nat) (A0 : Option Addr) (c0 : Nat) (l0 : List S43) (a1 : ByteArray) (r : List Int) (w : World) (hr0 : Kd.C k43 w A0 l0.length l0) (hc0 : l0.length ≤ c0) (h : dag_History.f k l0 a1 = some r) (HG : Aside0 (Laid w)) :
    Calls Tryd.prog 11 #[.slice A0 l0.length c0, .string a1] w fun e w' => ∃ v0_ : Value, e = .returned v0_ ∧ Kd.R (Kd.int .i64) 3 w' w.heap.size (fun _ => True) v0_ r ∧ Below w.heap.size w w' := by
  obtain ⟨el, hE0, _⟩ := els_of hr0
  have HE := Aside0.mk hE0
  have HB9 := Aside0.mk hr0.2.1
  have HC0 := Aside0.mk hc0
  obtain ⟨i0, hi, hz0, hz1, hz2⟩ := info_parts info_int
  unfold dag_History.f at h
  cases hck : dag_Check.f k l0 with
  | none => rw [hck] at h; cases h
  | some t =>
  rw [hck] at h
  replace h : (if t = 0 then some (histF l0 a1 (dn l0.length l0.length)) else some []) = some r := h
  have HK := Aside0.mk ((dag_Check.calls k A0 c0 l0 t (w.alloc (.cells #[.string a1] 9)) (Kd.C_alloc hr0 _) hc0 hck (Aside0.mk (Laid.below HG.out (below_alloc (Below.refl _ _) _)))))
  have hsh : t = 0 → l0.length ≤ 1000 := fun e => check_short (k := k) (by rw [hck, e])
  replace hck := Aside0.mk hck
  replace h := Aside0.mk h
  replace hsh := Aside0.mk hsh
  clear hE0 hr0 hc0
  refine (callsIn_wide (n := 6)).1 ?_
  refine callsIn_of_wp_marks Tryd.func11 rfl trivial ?_ rfl
  simp only [Tryd.ntmps11, List.size_toArray, List.length_cons, List.length_nil, Nat.reduceAdd, Nat.reduceSub, Array.replicate_succ, Array.replicate_zero, List.push_toArray, List.append_toArray, List.nil_append, List.cons_append]
  by_cases ht : t = 0
  · subst ht
    have h1000 := Aside0.mk (hsh.out rfl)
    clear hsh
    have hr : histF l0 a1 (dn l0.length l0.length) = r := by have := h.out; rw [if_pos rfl] at this; exact Option.some.inj this
    replace hr := Aside0.mk hr
    clear h
    gi_wp2_with (first | (refine ⟨trivial, ?_⟩; gi_at_call 21; refine (callsIn_wide.2 HK.out).mono ?_; rintro e w1 ⟨rfl, hb1⟩) | (refine ⟨trivial, ?_⟩; gi_at_call 24; refine (back_in Fence.wide _ trivial rfl _ _ _ _).mono ?_; rintro e w2 ⟨rfl, rfl⟩))
    have bP : Boxed w1 w.heap.size 9 (.string a1) := (hb1.block w.heap.size (by simp)).trans (World.alloc_heap_new w _)
    have hB1 : Below w.heap.size w w1 := below_step (below_alloc (Below.refl _ _) _) hb1
    have hgt : w.heap.size < w1.heap.size := bP.lt
    have bP2 := (bP.alloc (.cells #[.slice none 0 0] 29)).alloc (.cells #[.slice A0 l0.length c0] 22)
    have bO := (Boxed.new w1 29 (.slice none 0 0)).alloc (.cells #[.slice A0 l0.length c0] 22)
    have bN := Boxed.new (w1.alloc (.cells #[.slice none 0 0] 29)) 22 (.slice A0 l0.length c0)
    have hB0 : Below w.heap.size w ((w1.alloc (.cells #[.slice none 0 0] 29)).alloc (.cells #[.slice A0 l0.length c0] 22)) := (hB1.alloc (by omega) _).alloc (by simp; omega) _
    have hsz : ((w1.alloc (.cells #[.slice none 0 0] 29)).alloc (.cells #[.slice A0 l0.length c0] 22)).heap.size = w1.heap.size + 2 := by simp
    simp only [World.size_alloc] at bN
    obtain ⟨W0, hW0⟩ : ∃ W0, (w1.alloc (.cells #[.slice none 0 0] 29)).alloc (.cells #[.slice A0 l0.length c0] 22) = W0 := ⟨_, rfl⟩
    rw [hW0] at bP2 bO bN hB0 hsz ⊢
    clear hW0 bP
    have hE0 := HE.out.below hB0
    refine wpIn_rangeFunc_ownH (α := Fin l0.length) rfl (by omega) (gf := 38) (lb := #[.pointer (some ⟨w1.heap.size + 1, 0, none⟩)]) rfl trivial (enters_of Tryd.func38 (by kernel_rfl) rfl)
      (back_stops Fence.wide _ trivial rfl (by omega) (w1.heap.size + 1) w.heap.size A0 c0 l0 HB9.out el W0 (by omega) bN hE0) KB.trans (KB.putObj (by omega) (by omega)) (Below.refl _ _) (fun _ => rfl)
      (fun pre W => ((∃ v, Boxed W w1.heap.size 29 v ∧ W.ownsRow w.heap.size 3 1 v (histF l0 a1 pre).length ((histF l0 a1 pre).map (Value.int .i64)) ∧ True) ∧ Boxed W w.heap.size 9 (.string a1) ∧ Boxed W (w1.heap.size + 1) 22 (.slice A0 l0.length c0)) ∧ Below w.heap.size w W)
      (fun _ _ _ => False)
      (OwnFrom.and (OwnFrom.and (Own.from (holdsRow_own w.heap.size w1.heap.size 29 3 1 (fun pre => (histF l0 a1 pre).length) (fun pre => (histF l0 a1 pre).map (Value.int .i64)) (fun _ _ => True)) _) (OwnFrom.and (Own.from (boxed_own _ _ _) _) (Own.from (boxed_own _ _ _) _))) (ownFrom_below (Nat.le_refl _) (by omega)))
      (fun _ _ _ _ _ hs _ _ => hs)
      ⟨⟨⟨_, bO, World.ownsRow_nil _ _ _ _, trivial⟩, bP2, bN⟩, hB0⟩
      (fun x a' W => ∃ Bx, w1.heap.size + 1 < Bx ∧ W.heap[Bx]? = some (.cells #[.int .i64 (rd_T43 l0 (x.val : Int)).f0, .string (rd_T43 l0 (x.val : Int)).f1, .int .i64 (rd_T43 l0 (x.val : Int)).f2, .slice (el x.val).1 (rd_T43 l0 (x.val : Int)).f3.length (el x.val).2] 43 (0, 0)) ∧ a' = { tmps := #[.slice A0 l0.length c0, .string a1, undef, .pointer (some ⟨w.heap.size, 0, none⟩), .slice none 0 0, .pointer (some ⟨w1.heap.size, 0, none⟩), undef, .pointer (some ⟨Bx, 0, none⟩), .slice A0 l0.length c0, .int .i64 0, .bool false, .slice A0 l0.length c0, .func (.func 38) #[] #[.pointer (some ⟨w1.heap.size + 1, 0, none⟩)], .int .i64 (x.val : Int), rv l0 el x.val, undef, undef, undef, undef, undef, undef, undef, undef, undef, undef], defers := [] })
      (fun x a' _ X Y row hs hg hr => by obtain ⟨Bx, h1, h2, h3⟩ := hs; exact ⟨Bx, h1, cellsAt_own Bx _ _ () X Y row h2 hg (fun r e => (hr r e).2), h3⟩)
      ?assign ?body ?done ?stop
    case assign =>
      rintro l pre x W K ⟨⟨⟨v, hv, hrow, _⟩, bP3, bN3⟩, hB3⟩ hK
      have hs3 := hB3.size
      dsimp only [rv]
      gi_wp2
      refine hK _ _ ?_ ?_ ?_ ⟨W.heap.size, bN3.lt, ?_, rfl⟩
      · exact (KeepsOthers.alloc _ _).from _
      · exact ⟨(Below.refl _ W).alloc hs3 _, Below.heap_alloc W _ _ bN3.lt⟩
      · exact ⟨⟨⟨v, hv.alloc _, hrow.alloc _, trivial⟩, bP3.alloc _, bN3.alloc _⟩, hB3.alloc hs3 _⟩
      · exact World.alloc_heap_new W _
    case body =>
      rintro l pre x a' W hl ⟨r, hr⟩ ⟨⟨⟨v, hv, hrow, _⟩, bP3, bN3⟩, hB3⟩ ⟨Bx, hBx, hX, rfl⟩ hlt
      have hs3 := hB3.size
      have hc := hv.cell
      have hp := bP3.cell
      have hpl := histF_len l0 a1 pre
      have h1000' := h1000.out
      have hcx0 : W.cell? ⟨Bx, 0, none⟩ = some (.int .i64 (rd_T43 l0 (x.val : Int)).f0) := (blk_cell hX 0).trans rfl
      have hcx1 : W.cell? ⟨Bx, 1, none⟩ = some (.string (rd_T43 l0 (x.val : Int)).f1) := (blk_cell hX 1).trans rfl
      by_cases hx : (rd_T43 l0 (x.val : Int)).f1.toList = a1.toList
      · have hxb : ((rd_T43 l0 (x.val : Int)).f1.toList == a1.toList) = true := beq_iff_eq.2 hx
        gi_wp2_with (gi_at_builtin; refine wpListIn_append_own _ rfl _ _ 29 rfl w.heap.size 3 i0 (.int .i64 0) 1 8 Tryd.underlying29 hi hz0 hz1 hz2 rfl (by decide) _ _ _ rfl (hrow.alloc _) ⟨W.heap.size, 0, none⟩ 1 1 [.int .i64 (rd_T43 l0 (x.val : Int)).f0] rfl rfl (cell_one_new _ _ _) (by simp [Value.oneCell']) (by unfold maxLen; omega) (by omega) (by simp; omega) ?_; intro v' w1' hown' hgrow _; obtain ⟨g', cap', rfl⟩ := ownsRow_succ hown'; obtain ⟨hv1, hv2, hr2, hk2, hb2⟩ := hv.appended (by decide) hrow hs3 (by omega) hown' hgrow; have hc1 := hv1.cell; have hf1 := hv1.frozen)
        have hbN : Boxed w1' (w1.heap.size + 1) 22 (.slice A0 l0.length c0) := (bN3.alloc _).kept hgrow (bN3.not_row (by decide) hrow)
        have hbP : Boxed w1' w.heap.size 9 (.string a1) := (bP3.alloc _).kept hgrow (bP3.not_row (by decide) hrow)
        refine ⟨hk2.from _, ⟨hb2, ?_⟩, ⟨⟨_, hv2, ?_, trivial⟩, hbP.other (by omega) _, hbN.other (by omega) _⟩, hB3.trans hb2⟩
        · exact (hbN.other (by omega) _).trans bN3.symm
        · rw [histF_hit l0 a1 pre hx]; simpa using hr2
      · have hxb : ((rd_T43 l0 (x.val : Int)).f1.toList == a1.toList) = false := beq_eq_false_iff_ne.2 hx
        gi_wp2
        exact ⟨KeepsFrom.refl _ _, KB.refl _ _ _, ⟨⟨v, hv, by rw [histF_miss l0 a1 pre hx]; exact hrow, trivial⟩, bP3, bN3⟩, hB3⟩
    case done =>
      rintro D ys W hD rfl ⟨⟨⟨v, hv, hrow, _⟩, bP3, bN3⟩, hB3⟩ hK
      have hc := hv.cell
      gi_wp2
      refine ⟨by simp, .inl ⟨_, _, rfl, run_takeDeferred hK, ?_⟩⟩
      refine ⟨_, results_tmp rfl _ _ _, v, rfl, Kd.R_of_own ?_ (fun _ _ => trivial), hB3.trans (belowK_b (w := w) (Nat.le_refl _) W D _ _ (by omega) hK rfl rfl)⟩
      rw [← hr.out]
      exact ownsRow_putObj hrow _ hK rfl
    case stop =>
      rintro D c pre W _ _ h _
      exact h.elim
  · have hr : r = [] := by have := h.out; rw [if_neg ht] at this; exact (Option.some.inj this).symm
    subst hr
    have hne : (t != 0) = true := bne_iff_ne.2 ht
    gi_wp2_with (refine ⟨trivial, ?_⟩; gi_at_call 21; refine (callsIn_wide.2 HK.out).mono ?_; rintro e w1 ⟨rfl, hb1⟩)
    exact ⟨_, results_tmp rfl _ _ _, _, rfl, Kd.R_nil _ _ _ _ _, below_step (below_alloc (Below.refl _ _) _) hb1⟩
end Go.Proofs.YtgopimjfoppkmaaDoor.D
