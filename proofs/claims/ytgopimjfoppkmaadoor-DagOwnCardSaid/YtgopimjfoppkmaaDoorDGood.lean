/- pen.all with the function literal of pen.Good, and pen.Good, walked by hand: what they answer. -/
import Derived.Test.YtgopimjfoppkmaaDoorDBase
import Derived.Test.YtgopimjfoppkmaaDoorD2
namespace Go.Proofs.YtgopimjfoppkmaaDoor.D
open Go.RowKit Go.Proofs.YtgopimjfoppkmaaDoorW.PrintWords Go.Proofs.YtgopimjfoppkmaaDoorW.PrintLast

/-- A byte that may be read. -/
def gd8 (b : UInt8) : Bool := decide (b.toNat ≠ 0) && decide (b.toNat ≠ 13)
def all8 (p : UInt8 → Bool) (s : ByteArray) : Bool := s.data.toList.all p
theorem nil_iff8 (s : ByteArray) : s.toList = [] ↔ s.size = 0 := by
  rw [Go.ByteArray.toList_eq, ← List.length_eq_zero_iff, Array.length_toList]; rfl
theorem all_no {p : UInt8 → Bool} {s : ByteArray} {j : Nat} (hj : j < s.size) (h : p s[j] = false) : all8 p s = false := by
  unfold all8
  rw [List.all_eq_false]
  exact ⟨s[j], List.mem_iff_getElem.2 ⟨j, by simpa using hj, by simp; rfl⟩, by rw [h]; decide⟩
theorem all_yes {p : UInt8 → Bool} {s : ByteArray} (h : ∀ j (hj : j < s.size), p s[j] = true) : all8 p s = true := by
  unfold all8
  rw [List.all_eq_true]
  intro b hb
  obtain ⟨j, hj, rfl⟩ := List.mem_iff_getElem.1 hb
  exact h j (by simpa using hj)
set_option maxHeartbeats 4000000 in
set_option maxRecDepth 1000000 in
theorem good1 (b : UInt8) (w : World) : Calls Tryd.prog 52 #[.int .u8 (b.toNat : Int)] w fun e w' => e = .returned (.bool (gd8 b)) ∧ Drawn0 w w' := by
  have hr := UInt8.toNat_lt b
  go_enter Tryd.func52, Tryd.ntmps52
  go_wp2
  all_goals go_ret
  all_goals refine ⟨congrArg (fun c => Ending.returned (Value.bool c)) ?_, by first | exact Drawn0.refl _ | exact (Drawn0.refl _).step _⟩
  all_goals unfold gd8
  all_goals rw [Bool.eq_iff_iff]
  all_goals simp
  all_goals omega
theorem drawn_trans {a b c : World} (h : Drawn0 a b) (k : Drawn0 b c) : Drawn0 a c := by
  obtain ⟨n, rfl⟩ := k.out
  exact h.step n
set_option maxHeartbeats 4000000 in
set_option maxRecDepth 1000000 in
theorem all_good (s : ByteArray) (w : World) (hs : s.size ≤ 140737488355328) :
    Calls Tryd.prog 51 #[.string s, .func (.func 52) #[] #[]] w fun e w' => e = .returned (.bool (all8 gd8 s)) ∧ Drawn0 w w' := by
  go_enter Tryd.func51, Tryd.ntmps51
  go_wp2
  go_loopw [8] (fun v8 wr => ∃ i : Nat, v8 = .int .i64 (i : Int) ∧ i ≤ s.size ∧ Aside0 (Drawn0 w wr) ∧ Aside0 (∀ j (hj : j < s.size), j < i → gd8 s[j] = true)) (fun v8 _ => s.size - (RowKit.intOf v8).toNat)
  case atStart => exact ⟨0, rfl, Nat.zero_le _, ⟨Drawn0.refl _⟩, ⟨fun j hj h0 => absurd h0 (by omega)⟩⟩
  case round =>
    obtain ⟨i, rfl, hi, HD, HA⟩ := hrel
    by_cases hlt : i < s.size
    · have hi1 : ((i : Int) < (s.size : Int)) := by omega
      have HC := Aside0.mk (fun w => good1 (s[i]'hlt) w)
      have ms : Aside0 (s.size - (RowKit.intOf (.int .i64 ((i : Int) + 1))).toNat < s.size - (RowKit.intOf (.int .i64 (i : Int))).toNat) := ⟨by
        simp only [RowKit.intOf]; omega⟩
      obtain ⟨b, hb⟩ : ∃ b, b = gd8 (s[i]'hlt) := ⟨_, rfl⟩
      rw [← hb] at HC
      replace hb := Aside0.mk hb
      cases b with
      | true =>
        go_wp2_with (go_at_call 52; refine (HC.out _).mono ?_; rintro e w1 ⟨rfl, hd⟩)
        refine ⟨⟨i + 1, rfl, by omega, ⟨drawn_trans HD.out hd⟩, ⟨fun j hj hj1 => ?_⟩⟩, ms.out⟩
        rcases Nat.lt_or_ge j i with z | z
        · exact HA.out j hj z
        · obtain rfl : j = i := by omega
          exact hb.out.symm
      | false =>
        go_wp2_with (go_at_call 52; refine (HC.out _).mono ?_; rintro e w1 ⟨rfl, hd⟩)
        go_ret
        exact ⟨congrArg (fun b => Ending.returned (Value.bool b)) (all_no hlt hb.out.symm).symm, drawn_trans HD.out hd⟩
    · have hi0 : ¬ ((i : Int) < (s.size : Int)) := by omega
      go_wp2
      go_ret
      exact ⟨congrArg (fun b => Ending.returned (Value.bool b)) (all_yes fun j hj => HA.out j hj (by omega)).symm, HD.out⟩
/-- pen.Good: whether it is right, without what is never read. -/
def pen_Good.f (k : Nat) (s : ByteArray) : Option Bool := (utf_Right.f k s).bind fun t => if t = true then (if s.size ≤ 140737488355328 then some (all8 gd8 s) else none) else some false
theorem pen_Good.mono : ∀ a0 k, LeO (pen_Good.f k a0) (pen_Good.f (k + 1) a0) := by
  intro a0 k
  unfold pen_Good.f
  exact LeO.bind (utf_Right.mono _ _) fun _ => LeO.refl _
set_option maxHeartbeats 4000000 in
set_option maxRecDepth 1000000 in
theorem pen_Good.calls (k : Nat) (s : ByteArray) (r : Bool) (w : World) (h : pen_Good.f k s = some r) (HG : Aside0 (Laid w)) :
    Calls Tryd.prog 47 #[.string s] w fun e w' => e = .returned (.bool r) ∧ Drawn0 w w' := by
  unfold pen_Good.f at h
  obtain ⟨t, h1, h⟩ := Option.bind_eq_some_iff.mp h
  have hR := Aside0.mk (utf_Right.calls k s t w h1 HG)
  cases t with
  | true =>
    rw [if_pos rfl] at h
    by_cases hs : s.size ≤ 140737488355328
    · rw [if_pos hs] at h
      obtain rfl := Option.some.inj h
      have hA := Aside0.mk (fun w => all_good s w hs)
      clear h h1
      go_enter Tryd.func47, Tryd.ntmps47
      go_wp2_with (first | (go_at_call 51; refine (hA.out _).mono ?_; rintro e w1 ⟨rfl, hd⟩) | (go_at_call 50; refine hR.out.mono ?_; rintro e w2 ⟨rfl, hd2⟩))
      go_ret
      exact ⟨rfl, drawn_trans hd2 hd⟩
    · rw [if_neg hs] at h; cases h
  | false =>
    rw [if_neg (by decide)] at h
    obtain rfl := Option.some.inj h
    clear h h1
    go_enter Tryd.func47, Tryd.ntmps47
    go_wp2_with (first | (go_at_call 50; refine hR.out.mono ?_; rintro e w2 ⟨rfl, hd2⟩))
    go_ret
    exact ⟨rfl, hd2⟩
end Go.Proofs.YtgopimjfoppkmaaDoor.D
