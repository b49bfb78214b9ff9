/- refs.All: what the machine's call comes to, as a plain function: what stands at each place is put behind what is there. -/
import Derived.Test.YtenbdffgnbibeaaDoorXBld
import Derived.Test.YtenbdffgnbibeaaDoorX4
namespace Go.Proofs.YtenbdffgnbibeaaDoor.X
open Go.RowKit Go.Proofs.YtenbdffgnbibeaaDoorW.PrintWords Go.Proofs.YtenbdffgnbibeaaDoorW.PrintLast
set_option linter.unusedVariables false
set_option linter.unusedSimpArgs false

def refs_All.l0 : Nat → ByteArray → Bool → Int → List UInt8 → Option ByteArray
  | 0, _, _, _, _ => none
  | k + 1, s, v, i, out => if i < (s.size : Int) then (refs_At.f k s i v).bind fun b => if out.length + b.1.size ≤ 140737488355328 then refs_All.l0 k s v b.2 (out ++ b.1.data.toList) else none else some ⟨out.toArray⟩
def refs_All.f (k : Nat) (a0 : ByteArray) (a1 : Bool) : Option ByteArray := refs_All.l0 k a0 a1 0 []
theorem refs_All.mono_l : ∀ k, (∀ y0 y1 y2 y3, LeO (refs_All.l0 k y0 y1 y2 y3) (refs_All.l0 (k + 1) y0 y1 y2 y3))
  | 0 => fun _ _ _ _ r h => by simp [refs_All.l0] at h
  | k + 1 => by
    have ih0 := refs_All.mono_l k
    intro y0 y1 y2 y3
    unfold refs_All.l0
    repeat' first
      | (with_reducible exact ih0 _ _ _ _)
      | (with_reducible exact refs_At.mono _ _ _ _)
      | (with_reducible exact LeO.refl _)
      | (with_reducible exact LeO.none _)
      | (with_reducible refine LeO.ite ?_ ?_)
      | (with_reducible refine LeO.bind ?_ (fun _ => ?_))
theorem refs_All.mono : ∀ a0 a1 k, LeO (refs_All.f k a0 a1) (refs_All.f (k + 1) a0 a1) := fun a0 a1 k => refs_All.mono_l k a0 a1 0 []
set_option maxHeartbeats 4000000 in
set_option maxRecDepth 100000 in
theorem refs_All.calls (k : Nat) (a0 : ByteArray) (a1 : Bool) (r : ByteArray) (w : World) (h : refs_All.f k a0 a1 = some r) (HG : Aside0 (Laid w)) :
    Calls Tryd.prog 30 #[.string a0, .bool a1] w fun e w' => e = .returned (.string r) ∧ Below w.heap.size w w' := by
  have HB := Aside0.mk (Below.refl w.heap.size w)
  have H' := Aside0.mk h
  clear h
  go_enter Tryd.func30, Tryd.ntmps30
  go_wp2
  go_loopg [6] k (fun kq v6 w' => ∃ (i : Int) (out : List UInt8), v6 = .int .i64 i ∧ Aside0 (refs_All.l0 kq a0 a1 i out = some r) ∧ Aside0 (kq ≤ k) ∧ Aside0 (Bld w w.heap.size out w') ∧ Aside0 (Below w.heap.size w w'))
  case atStart => exact ⟨0, [], rfl, H', ⟨Nat.le_refl _⟩, ⟨Bld.new (Below.refl _ _)⟩, ⟨below_alloc (Below.refl _ _) _⟩⟩
  case round =>
    clear H'
    clear HB
    obtain ⟨i, out, rfl, HA, HK, HD, HB⟩ := hrel
    cases gk with
    | zero => exact absurd HA.out (by simp [refs_All.l0])
    | succ k1 =>
      have H := HA.out
      clear HA
      simp only [refs_All.l0] at H
      by_cases c1 : i < (a0.size : Int)
      · rw [if_pos c1] at H
        have c1a : decide (i < (a0.size : Int)) = true := decide_eq_true c1
        clear c1
        replace H := Option.bind_eq_some_iff.mp H
        obtain ⟨⟨t1, t2⟩, A1, H⟩ := H
        replace A1 := Aside0.mk A1
        by_cases c2 : out.length + t1.size ≤ 140737488355328
        · rw [if_pos c2] at H
          have H' := Aside0.mk H
          clear H
          have C2 := Aside0.mk c2
          clear c2
          go_wp2_with (first
            | (go_at_call 28; (with_reducible refine (refs_At.calls k1 a0 i a1 t1 t2 _ A1.out ?hg).mono ?_); (case hg => exact ⟨Laid.below HG.out HB.out⟩); rintro e w3 ⟨rfl, hb3⟩; have HB3 := Aside0.mk (below_step (by repeat (first | exact HB.out | apply pw_below_drewN | apply below_alloc)) hb3); have HD3 := Aside0.mk (Bld.below (by repeat (first | exact HD.out | apply Bld.drewN)) hb3); clear hb3)
            | (go_at_call 43; (refine (Bld.write HD3.out t1 HB3.out C2.out).mono ?_); rintro e w4 ⟨rfl, hd4, hb4⟩; have HB4 := Aside0.mk hb4; have HD4 := Aside0.mk hd4; clear hd4 hb4))
          go_roundg k1
          case measure => have := HK.out; omega
          case rel => exact ⟨t2, out ++ t1.data.toList, rfl, H', ⟨by have := HK.out; omega⟩, HD4, HB4⟩
        · rw [if_neg c2] at H
          cases H
      · rw [if_neg c1] at H
        have c1a : decide (i < (a0.size : Int)) = false := decide_eq_false c1
        clear c1
        obtain rfl := Option.some.inj H
        go_wp2_with (first | (go_at_call 44; refine (Bld.string HD.out HB.out).mono ?_; rintro e w2 ⟨rfl, _, hb2⟩))
        go_ret
        exact ⟨rfl, hb2⟩
end Go.Proofs.YtenbdffgnbibeaaDoor.X
