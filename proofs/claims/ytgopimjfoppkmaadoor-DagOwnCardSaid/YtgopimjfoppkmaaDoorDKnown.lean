/- slices.IndexFunc and slices.ContainsFunc over revisions, with a function value of one captured variable, and dag.known, walked by hand: what they answer. -/
import Derived.Test.YtgopimjfoppkmaaDoorD0
import Derived.Shelf.Abstract
namespace Go.Proofs.YtgopimjfoppkmaaDoor.D
open Go.RowKit Go.Shelf Go.Proofs.YtgopimjfoppkmaaDoorW.PrintWords Go.Proofs.YtgopimjfoppkmaaDoorW.PrintLast

/-- What is asked of a function value over revisions: it answers p, and leaves what there was. -/
def Asks (g B : Nat) (p : S43 → Bool) (w : World) : Prop :=
  ∀ (W : World) (x : S43) (A3 : Option Addr) (c3 : Nat), Below w.heap.size w W → x.f3.length ≤ c3 → Kd.C (Kd.int .i64) W A3 x.f3.length x.f3 →
    Calls Tryd.prog g #[.agg #[.int .i64 x.f0, .string x.f1, .int .i64 x.f2, .slice A3 x.f3.length c3], .pointer (some ⟨B, 0, none⟩)] W fun e w' => e = .returned (.bool (p x)) ∧ Below w.heap.size w w'
theorem any_none {α : Type} {p : α → Bool} {l : List α} (h : ∀ j (hj : j < l.length), p l[j] = false) : l.any p = false := by
  rw [List.any_eq_false]
  intro x hx
  obtain ⟨j, hj, rfl⟩ := List.mem_iff_getElem.1 hx
  rw [h j hj]; decide
theorem rd_at {l : List S43} {j : Nat} (hj : j < l.length) : rd_T43 l (j : Int) = l[j] := by
  unfold rd_T43
  rw [Int.toNat_natCast, List.getD_eq_getElem?_getD, List.getElem?_eq_getElem hj]; rfl
set_option maxHeartbeats 4000000 in
set_option maxRecDepth 1000000 in
theorem indexF (g B : Nat) (p : S43 → Bool) (eg : ∀ args w, (callFunc g args).run Tryd.prog w = .ok (.enter g args) w) (A0 : Option Addr) (c0 : Nat) (l0 : List S43) (w : World)
    (hr0 : Kd.C k43 w A0 l0.length l0) (hp : Asks g B p w) :
    Calls Tryd.prog 40 #[.slice A0 l0.length c0, .func (.func g) #[] #[.pointer (some ⟨B, 0, none⟩)]] w fun e w' => ∃ r : Int, e = .returned (.int .i64 r) ∧ decide (0 ≤ r) = l0.any p ∧ Below w.heap.size w w' := by
  have HR0 := Aside0.mk hr0
  have HP := Aside0.mk hp
  clear hr0 hp
  go_enter Tryd.func40, Tryd.ntmps40
  go_wp2
  go_loopg [5, 8] l0.length (fun gg _ s8 wr => ∃ kk : Nat, kk ≤ l0.length ∧ l0.length - kk ≤ gg ∧ s8 = .int .i64 kk ∧ Aside0 (Below w.heap.size w wr) ∧ Aside0 (∀ j (hj : j < l0.length), j < kk → p l0[j] = false))
  case atStart => exact ⟨0, Nat.zero_le _, by omega, rfl, ⟨Below.refl _ w⟩, ⟨fun j _ hj => absurd hj (Nat.not_lt_zero _)⟩⟩
  case round =>
    obtain ⟨kk, hkk, hg, rfl, HB, HA⟩ := hrel
    by_cases hlt : kk < l0.length
    · have hltz : ((kk : Int) < (l0.length : Int)) := by omega
      have p0 : (0 : Int) ≤ (kk : Int) := by omega
      have hbig := HR0.out.2.1
      obtain ⟨ad, A3, c3, e3, hx0, hx1, hx2, hx3, hl3, hi3⟩ := at_T43 HR0.out (kk : Int) p0 hltz
      cases e3
      replace hx0 := (HB.out.cell (World.block_lt_of_cell? w _ hx0)).trans hx0
      replace hx1 := (HB.out.cell (World.block_lt_of_cell? w _ hx1)).trans hx1
      replace hx2 := (HB.out.cell (World.block_lt_of_cell? w _ hx2)).trans hx2
      replace hx3 := (HB.out.cell (World.block_lt_of_cell? w _ hx3)).trans hx3
      simp only [Int.toNat_natCast] at hx0 hx1 hx2 hx3
      have HC := Aside0.mk (HP.out wr _ A3 c3 HB.out hl3 (Kd.C_below hi3 HB.out))
      have hy := rd_at hlt
      clear hi3 hl3
      replace hbig := Aside0.mk hbig
      generalize rd_T43 l0 (kk : Int) = y at hx0 hx1 hx2 hx3 HC hy
      replace hy := Aside0.mk hy
      cases hq : p y with
      | true =>
        rw [hq] at HC
        replace hq := Aside0.mk hq
        go_wp2
        refine HC.out.mono ?_
        rintro e w' ⟨rfl, hb'⟩
        go_wp2
        go_ret
        refine ⟨_, rfl, ?_, hb'⟩
        rw [decide_eq_true (by omega)]
        exact (List.any_eq_true.2 ⟨l0[kk], List.getElem_mem hlt, by rw [← hy.out]; exact hq.out⟩).symm
      | false =>
        rw [hq] at HC
        replace hq := Aside0.mk hq
        go_wp2
        refine HC.out.mono ?_
        rintro e w' ⟨rfl, hb'⟩
        go_wp2
        go_roundg (l0.length - (kk + 1))
        case measure => omega
        case rel =>
          refine ⟨kk + 1, by omega, by omega, congrArg (Value.int .i64) (by have := hbig.out; unfold wrap64; omega), ⟨hb'⟩, ⟨fun j hj hj1 => ?_⟩⟩
          by_cases e : j = kk
          · subst e
            rw [← hy.out]; exact hq.out
          · exact HA.out j hj (by omega)
    · have hltz : ¬ ((kk : Int) < (l0.length : Int)) := by omega
      go_wp2
      go_ret
      refine ⟨_, rfl, ?_, HB.out⟩
      rw [any_none fun j hj => HA.out j hj (by omega)]
      decide
set_option maxHeartbeats 4000000 in
set_option maxRecDepth 1000000 in
theorem containsF (g B : Nat) (p : S43 → Bool) (eg : ∀ args w, (callFunc g args).run Tryd.prog w = .ok (.enter g args) w) (A0 : Option Addr) (c0 : Nat) (l0 : List S43) (w : World)
    (hr0 : Kd.C k43 w A0 l0.length l0) (hp : Asks g B p w) :
    Calls Tryd.prog 28 #[.slice A0 l0.length c0, .func (.func g) #[] #[.pointer (some ⟨B, 0, none⟩)]] w fun e w' => e = .returned (.bool (l0.any p)) ∧ Below w.heap.size w w' := by
  have HI := Aside0.mk (indexF g B p eg A0 c0 l0 w hr0 hp)
  clear hr0 hp
  go_enter Tryd.func28, Tryd.ntmps28
  go_wp2_with (go_at_call 40; refine HI.out.mono ?_; rintro e w' ⟨r, rfl, hr, hb'⟩)
  go_ret
  refine ⟨?_, hb'⟩
  rw [← hr]
  rfl
/-- dag.known: whether a graph has a page. -/
def dag_known.f (l0 : List S43) (a1 : ByteArray) : Option Bool := some (l0.any fun x => x.f1.toList == a1.toList)
set_option maxHeartbeats 4000000 in
set_option maxRecDepth 1000000 in
theorem known1 (x : S43) (A3 : Option Addr) (c3 B : Nat) (s : ByteArray) (w : World) (hB : w.cell? ⟨B, 0, none⟩ = some (.string s)) :
    Calls Tryd.prog 53 #[.agg #[.int .i64 x.f0, .string x.f1, .int .i64 x.f2, .slice A3 x.f3.length c3], .pointer (some ⟨B, 0, none⟩)] w fun e w' => e = .returned (.bool (x.f1.toList == s.toList)) ∧ Below w.heap.size w w' := by
  have hlt := World.block_lt_of_cell? w _ hB
  go_enter Tryd.func53, Tryd.ntmps53
  go_wp2
  go_ret
  exact ⟨rfl, below_alloc (Below.refl _ _) _⟩
set_option maxHeartbeats 4000000 in
set_option maxRecDepth 1000000 in
theorem dag_known.calls (A0 : Option Addr) (c0 : Nat) (l0 : List S43) (a1 : ByteArray) (r : Bool) (w : World) (hr0 : Kd.C k43 w A0 l0.length l0) (hc0 : l0.length ≤ c0) (h : dag_known.f l0 a1 = some r) (HG : Aside0 (Laid w)) :
    Calls Tryd.prog 48 #[.slice A0 l0.length c0, .string a1] w fun e w' => e = .returned (.bool r) ∧ Below w.heap.size w w' := by
  have _ := HG
  have _ := hc0
  obtain rfl := Option.some.inj h
  clear h
  have HC := Aside0.mk (containsF 53 w.heap.size (fun x => x.f1.toList == a1.toList) (enters_of Tryd.func53 (by kernel_rfl) rfl) A0 c0 l0 (w.alloc (.cells #[.string a1] 9)) (Kd.C_alloc hr0 _) (fun W x A3 c3 hb _ _ => by
    refine (known1 x A3 c3 w.heap.size a1 W ?_).mono fun e w' hh => ⟨hh.1, below_step hb hh.2⟩
    exact (hb.cell (p := ⟨w.heap.size, 0, none⟩) (by simp)).trans (by simp)))
  go_enter Tryd.func48, Tryd.ntmps48
  go_wp2_with (go_at_call 28; refine HC.out.mono ?_; rintro e w' ⟨rfl, hb'⟩)
  go_ret
  exact ⟨rfl, below_step (below_alloc (Below.refl _ _) _) hb'⟩
end Go.Proofs.YtgopimjfoppkmaaDoor.D
