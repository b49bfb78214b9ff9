/- utf.Clean: what the machine's call comes to, as a plain function: character after character is put behind what is there. -/
import Derived.Test.YtdoapeandigooaaDoorPBld
import Derived.Test.YtdoapeandigooaaDoorP2
import Derived.Test.YtdoapeandigooaaDoorP4
namespace Go.Proofs.YtdoapeandigooaaDoor.P
open Go.RowKit Go.Proofs.YtdoapeandigooaaDoorW.PrintWords Go.Proofs.YtdoapeandigooaaDoorW.PrintLast
set_option linter.unusedVariables false
set_option linter.unusedSimpArgs false

def utf_Clean.l0 : Nat → ByteArray → List UInt8 → Option ByteArray
  | 0, _, _ => none
  | k + 1, s, out => if s.toList = ([] : List UInt8) then some ⟨out.toArray⟩ else (utf_First.f k s).bind fun b => (utf_Bytes.f k b.1).bind fun t => if out.length + t.size ≤ 140737488355328 then (if 0 ≤ b.2 then (if b.2 ≤ (s.size : Int) then utf_Clean.l0 k (s.extract (b.2 : Int).toNat s.size) (out ++ t.data.toList) else none) else none) else none
def utf_Clean.f (k : Nat) (a0 : ByteArray) : Option ByteArray := utf_Clean.l0 k a0 []
theorem utf_Clean.mono_l : ∀ k, (∀ y0 y1, LeO (utf_Clean.l0 k y0 y1) (utf_Clean.l0 (k + 1) y0 y1))
  | 0 => fun _ _ r h => by simp [utf_Clean.l0] at h
  | k + 1 => by
    have ih0 := utf_Clean.mono_l k
    intro y0 y1
    unfold utf_Clean.l0
    repeat' first
      | (with_reducible exact ih0 _ _)
      | (with_reducible exact utf_First.mono _ _)
      | (with_reducible exact utf_Bytes.mono _ _)
      | (with_reducible exact LeO.refl _)
      | (with_reducible exact LeO.none _)
      | (with_reducible refine LeO.ite ?_ ?_)
      | (with_reducible refine LeO.bind ?_ (fun _ => ?_))
theorem utf_Clean.mono : ∀ a0 k, LeO (utf_Clean.f k a0) (utf_Clean.f (k + 1) a0) := fun a0 k => utf_Clean.mono_l k a0 []
set_option maxHeartbeats 4000000 in
set_option maxRecDepth 100000 in
theorem utf_Clean.calls (k : Nat) (a0 : ByteArray) (r : ByteArray) (w : World) (h : utf_Clean.f k a0 = some r) (HG : Aside0 (Laid w)) :
    Calls Tryd.prog 48 #[.string a0] w fun e w' => e = .returned (.string r) ∧ Below w.heap.size w w' := by
  have HB := Aside0.mk (Below.refl w.heap.size w)
  have H' := Aside0.mk h
  clear h
  go_enter Tryd.func48, Tryd.ntmps48
  go_wp2
  go_loopg [0] k (fun kq v0 w' => ∃ (s : ByteArray) (out : List UInt8), v0 = .string s ∧ Aside0 (utf_Clean.l0 kq s out = some r) ∧ Aside0 (kq ≤ k) ∧ Aside0 (Bld w w.heap.size out w') ∧ Aside0 (Below w.heap.size w w'))
  case atStart => exact ⟨a0, [], rfl, H', ⟨Nat.le_refl _⟩, ⟨Bld.new (Below.refl _ _)⟩, ⟨below_alloc (Below.refl _ _) _⟩⟩
  case round =>
    clear H'
    clear HB
    obtain ⟨s, out, rfl, HA, HK, HD, HB⟩ := hrel
    cases gk with
    | zero => exact absurd HA.out (by simp [utf_Clean.l0])
    | succ k1 =>
      have H := HA.out
      clear HA
      simp only [utf_Clean.l0] at H
      by_cases c1 : s.toList = ([] : List UInt8)
      · rw [if_pos c1] at H
        have c1a : (s.toList == ([] : List UInt8)) = true := beq_iff_eq.mpr c1
        have c1b : (s.toList != ([] : List UInt8)) = false := bne_eq_false_iff_eq.mpr c1
        clear c1
        obtain rfl := Option.some.inj H
        go_wp2_with (first | (go_at_call 57; refine (Bld.string HD.out HB.out).mono ?_; rintro e w2 ⟨rfl, _, hb2⟩))
        go_ret
        exact ⟨rfl, hb2⟩
      · rw [if_neg c1] at H
        have c1a : (s.toList == ([] : List UInt8)) = false := beq_eq_false_iff_ne.mpr c1
        have c1b : (s.toList != ([] : List UInt8)) = true := bne_iff_ne.mpr c1
        clear c1
        replace H := Option.bind_eq_some_iff.mp H
        obtain ⟨⟨t1, t2⟩, A1, H⟩ := H
        replace H := Option.bind_eq_some_iff.mp H
        obtain ⟨t, A2, H⟩ := H
        replace A1 := Aside0.mk A1
        replace A2 := Aside0.mk A2
        by_cases c2 : out.length + t.size ≤ 140737488355328
        · rw [if_pos c2] at H
          by_cases c3 : 0 ≤ t2
          · rw [if_pos c3] at H
            by_cases c4 : t2 ≤ (s.size : Int)
            · rw [if_pos c4] at H
              have H' := Aside0.mk H
              clear H
              have C2 := Aside0.mk c2
              clear c2
              have c3a := eq_true c3
              have c4a := eq_true c4
              go_wp2_with (first
                | (go_at_call 52; (with_reducible refine (utf_First.calls k1 s t1 t2 _ A1.out ?hg).mono ?_); (case hg => exact ⟨Laid.below HG.out HB.out⟩); rintro e w' ⟨rfl, ⟨nd, rfl⟩⟩)
                | (go_at_call 47; (with_reducible refine (utf_Bytes.calls k1 t1 t _ A2.out ?hg).mono ?_); (case hg => exact ⟨Laid.below HG.out (by repeat (first | exact HB.out | apply pw_below_drewN | apply below_alloc))⟩); rintro e w3 ⟨rfl, hb3⟩; have HB3 := Aside0.mk (below_step (by repeat (first | exact HB.out | apply pw_below_drewN | apply below_alloc)) hb3); have HD3 := Aside0.mk (Bld.below (by repeat (first | exact HD.out | apply Bld.drewN)) hb3); clear hb3)
                | (go_at_call 53; (refine (Bld.write HD3.out t HB3.out C2.out).mono ?_); rintro e w4 ⟨rfl, hd4, hb4⟩; have HB4 := Aside0.mk hb4; have HD4 := Aside0.mk hd4; clear hd4 hb4))
              go_roundg k1
              case measure => have := HK.out; omega
              case rel => exact ⟨s.extract t2.toNat s.size, out ++ t.data.toList, rfl, H', ⟨by have := HK.out; omega⟩, HD4, HB4⟩
            · rw [if_neg c4] at H
              cases H
          · rw [if_neg c3] at H
            cases H
        · rw [if_neg c2] at H
          cases H
end Go.Proofs.YtdoapeandigooaaDoor.P
