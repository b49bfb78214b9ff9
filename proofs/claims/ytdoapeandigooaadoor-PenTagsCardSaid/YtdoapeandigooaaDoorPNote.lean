/- pen.Note: what the machine's call comes to, as a plain function: a comment's text, or that there is none. -/
import Derived.Test.YtdoapeandigooaaDoorPStr
import Derived.Test.YtdoapeandigooaaDoorPPen
namespace Go.Proofs.YtdoapeandigooaaDoor.P
open Go.RowKit Go.Proofs.YtdoapeandigooaaDoorW.PrintWords Go.Proofs.YtdoapeandigooaaDoorW.PrintLast
set_option linter.unusedVariables false
set_option linter.unusedSimpArgs false

def has1 (s : ByteArray) : Bool := Lib.contains s.data.toList (⟨#[45, 45, 62]⟩ : ByteArray).data.toList
def has2 (s : ByteArray) : Bool := Lib.contains s.data.toList (⟨#[45, 45, 33, 62]⟩ : ByteArray).data.toList
def noteS (s : ByteArray) : ByteArray := ((⟨#[60, 33, 45, 45]⟩ : ByteArray) ++ s) ++ (⟨#[45, 45, 62]⟩ : ByteArray)
/-- Behind the two that stand in no comment. -/
def noteR (k : Nat) (s : ByteArray) : Option (ByteArray × Int) := (pen_Good.f k s).bind fun g => if g = true then (strings_HasPrefix.f s ⟨#[62]⟩).bind fun t1 => if t1 = true then some (⟨#[]⟩, 4) else (strings_HasPrefix.f s ⟨#[45, 62]⟩).bind fun t2 => if t2 = true then some (⟨#[]⟩, 4) else (strings_HasSuffix.f s ⟨#[45]⟩).bind fun t3 => if t3 = true then some (⟨#[]⟩, 4) else (strings_HasSuffix.f s ⟨#[45, 45, 33]⟩).bind fun t4 => if t4 = true then some (⟨#[]⟩, 4) else some (noteS s, 0)
  else some (⟨#[]⟩, 4)
def pen_Note.f (k : Nat) (s : ByteArray) : Option (ByteArray × Int) := if s.size < 4294967281 then (if has1 s = true then some (⟨#[]⟩, 4) else if has2 s = true then some (⟨#[]⟩, 4) else noteR k s) else none
theorem noteR_mono (s : ByteArray) (k : Nat) : LeO (noteR k s) (noteR (k + 1) s) := by
  unfold noteR
  exact LeO.bind (pen_Good.mono _ _) fun _ => LeO.refl _
theorem pen_Note.mono : ∀ a0 k, LeO (pen_Note.f k a0) (pen_Note.f (k + 1) a0) := by
  intro a0 k
  unfold pen_Note.f
  exact LeO.ite (LeO.ite (LeO.refl _) (LeO.ite (LeO.refl _) (noteR_mono _ _))) (LeO.refl _)
set_option maxHeartbeats 8000000 in
set_option maxRecDepth 100000 in
theorem pen_Note.calls (k : Nat) (s : ByteArray) (r1 : ByteArray) (r2 : Int) (w : World) (h : pen_Note.f k s = some (r1, r2)) (HG : Aside0 (Laid w)) :
    Calls Tryd.prog 44 #[.string s] w fun e w' => e = .returned (.tuple #[.string r1, .int .i64 r2]) ∧ Drawn0 w w' := by
  unfold pen_Note.f at h
  by_cases hs : s.size < 4294967281
  case neg => rw [if_neg hs] at h; cases h
  rw [if_pos hs] at h
  have C1 := Aside0.mk (fun (w : World) HG => contains_calls s (⟨#[45, 45, 62]⟩ : ByteArray) w hs HG)
  have C2 := Aside0.mk (fun (w : World) HG => contains_calls s (⟨#[45, 45, 33, 62]⟩ : ByteArray) w hs HG)
  obtain ⟨c1, e1⟩ : ∃ c, c = has1 s := ⟨_, rfl⟩
  obtain ⟨c2, e2⟩ : ∃ c, c = has2 s := ⟨_, rfl⟩
  rw [← e1, ← e2] at h
  replace C1 : Aside0 (∀ (w : World), Aside0 (Laid w) → Calls Tryd.prog 68 #[.string s, .string (⟨#[45, 45, 62]⟩ : ByteArray)] w fun e w' => e = .returned (.bool c1) ∧ w' = w) := ⟨by rw [e1]; exact C1.out⟩
  replace C2 : Aside0 (∀ (w : World), Aside0 (Laid w) → Calls Tryd.prog 68 #[.string s, .string (⟨#[45, 45, 33, 62]⟩ : ByteArray)] w fun e w' => e = .returned (.bool c2) ∧ w' = w) := ⟨by rw [e2]; exact C2.out⟩
  clear e1 e2
  have HS := Aside0.mk hs
  have z1 : (9223372036854775807 < 4 + s.size) = False := eq_false (by omega)
  have z2 : (9223372036854775807 < 4 + s.size + 3) = False := eq_false (by omega)
  clear hs
  have H := Aside0.mk h
  clear h
  have hix0 : ∀ w : World, (Instr.index 67 (.agg #[.string (⟨#[45, 45, 62]⟩ : ByteArray), .string (⟨#[45, 45, 33, 62]⟩ : ByteArray)]) (.int .i64 0)).run Tryd.prog w = .ok (.string (⟨#[45, 45, 62]⟩ : ByteArray)) w := fun w => by kernel_rfl
  have hix1 : ∀ w : World, (Instr.index 67 (.agg #[.string (⟨#[45, 45, 62]⟩ : ByteArray), .string (⟨#[45, 45, 33, 62]⟩ : ByteArray)]) (.int .i64 1)).run Tryd.prog w = .ok (.string (⟨#[45, 45, 33, 62]⟩ : ByteArray)) w := fun w => by kernel_rfl
  go_enter Tryd.func44, Tryd.ntmps44
  go_wp2
  go_loopw [7] (fun v7 wr => ∃ i : Nat, v7 = .int .i64 (i : Int) ∧ i ≤ 2 ∧ Aside0 (wr = w) ∧ Aside0 (1 ≤ i → c1 = false) ∧ Aside0 (2 ≤ i → c2 = false)) (fun v7 _ => 2 - (RowKit.intOf v7).toNat)
  case atStart => exact ⟨0, rfl, by omega, ⟨rfl⟩, ⟨fun z => absurd z (by omega)⟩, ⟨fun z => absurd z (by omega)⟩⟩
  case round =>
    obtain ⟨i, rfl, hi, ⟨rfl⟩, H1, H2⟩ := hrel
    have hi3 : i = 0 ∨ i = 1 ∨ i = 2 := by omega
    rcases hi3 with rfl | rfl | rfl
    · cases c1 with
      | true =>
        have h := H.out
        rw [if_pos rfl] at h
        obtain ⟨rfl, rfl⟩ := Prod.mk.inj (Option.some.inj h)
        clear h H
        go_wp2_with (first | (go_at_call 68; refine (C1.out _ HG).mono ?_; rintro e w1 ⟨rfl, rfl⟩))
        go_ret2
        exact ⟨rfl, Drawn0.refl _⟩
      | false =>
        go_wp2_with (first | (go_at_call 68; refine (C1.out _ HG).mono ?_; rintro e w1 ⟨rfl, rfl⟩))
        exact ⟨⟨1, rfl, by omega, ⟨by first | trivial | rfl | (intro _; rfl) | (intro _; trivial)⟩, ⟨by first | trivial | rfl | (intro _; rfl) | (intro _; trivial)⟩, ⟨fun z => absurd z (by omega)⟩⟩, by simp [RowKit.intOf]⟩
    · cases c2 with
      | true =>
        have h := H.out
        rw [H1.out (by omega), if_neg (by decide), if_pos rfl] at h
        obtain ⟨rfl, rfl⟩ := Prod.mk.inj (Option.some.inj h)
        clear h H
        go_wp2_with (first | (go_at_call 68; refine (C2.out _ HG).mono ?_; rintro e w1 ⟨rfl, rfl⟩))
        go_ret2
        exact ⟨rfl, Drawn0.refl _⟩
      | false =>
        go_wp2_with (first | (go_at_call 68; refine (C2.out _ HG).mono ?_; rintro e w1 ⟨rfl, rfl⟩))
        exact ⟨⟨2, rfl, by omega, ⟨by first | trivial | rfl | (intro _; rfl) | (intro _; trivial)⟩, ⟨fun _ => H1.out (by omega)⟩, ⟨by first | trivial | rfl | (intro _; rfl) | (intro _; trivial)⟩⟩, by simp [RowKit.intOf]⟩
    · have h := H.out
      rw [H1.out (by omega), if_neg (by decide), H2.out (by omega), if_neg (by decide)] at h
      clear H H1 H2 C1 C2
      unfold noteR at h
      obtain ⟨g, N1, h⟩ := Option.bind_eq_some_iff.mp h
      replace N1 := Aside0.mk N1
      cases g with
      | false =>
        rw [if_neg (by decide)] at h
        obtain ⟨rfl, rfl⟩ := Prod.mk.inj (Option.some.inj h)
        clear h
        go_wp2_with (first | (go_at_call 38; refine (pen_Good.calls k _ _ _ N1.out HG).mono ?_; rintro e w1 ⟨rfl, ⟨nd1, rfl⟩⟩))
        go_ret2
        exact ⟨rfl, by first | exact Drawn0.refl _ | exact (Drawn0.refl _).step _⟩
      | true =>
        rw [if_pos rfl] at h
        obtain ⟨t2, N2, h⟩ := Option.bind_eq_some_iff.mp h
        replace N2 := Aside0.mk N2
        cases t2 with
        | true =>
          rw [if_pos rfl] at h
          obtain ⟨rfl, rfl⟩ := Prod.mk.inj (Option.some.inj h)
          clear h
          go_wp2_with (first | (go_at_call 38; refine (pen_Good.calls k _ _ _ N1.out HG).mono ?_; rintro e w1 ⟨rfl, ⟨nd1, rfl⟩⟩) | (go_at_call 69; refine (strings_HasPrefix.calls _ _ _ _ N2.out ⟨HG.out.below (by repeat (first | exact Below.refl _ _ | apply pw_below_drewN))⟩).mono ?_; rintro e w2 ⟨rfl, ⟨nd2, rfl⟩⟩))
          go_ret2
          exact ⟨rfl, by first | exact Drawn0.refl _ | exact (Drawn0.refl _).step _⟩
        | false =>
          rw [if_neg (by decide)] at h
          obtain ⟨t3, N3, h⟩ := Option.bind_eq_some_iff.mp h
          replace N3 := Aside0.mk N3
          cases t3 with
          | true =>
            rw [if_pos rfl] at h
            obtain ⟨rfl, rfl⟩ := Prod.mk.inj (Option.some.inj h)
            clear h
            go_wp2_with (first | (go_at_call 38; refine (pen_Good.calls k _ _ _ N1.out HG).mono ?_; rintro e w1 ⟨rfl, ⟨nd1, rfl⟩⟩) | (go_at_call 69; refine (strings_HasPrefix.calls _ _ _ _ N2.out ⟨HG.out.below (by repeat (first | exact Below.refl _ _ | apply pw_below_drewN))⟩).mono ?_; rintro e w2 ⟨rfl, ⟨nd2, rfl⟩⟩) | (go_at_call 69; refine (strings_HasPrefix.calls _ _ _ _ N3.out ⟨HG.out.below (by repeat (first | exact Below.refl _ _ | apply pw_below_drewN))⟩).mono ?_; rintro e w3 ⟨rfl, ⟨nd3, rfl⟩⟩))
            go_ret2
            exact ⟨rfl, by first | exact Drawn0.refl _ | exact (Drawn0.refl _).step _⟩
          | false =>
            rw [if_neg (by decide)] at h
            obtain ⟨t4, N4, h⟩ := Option.bind_eq_some_iff.mp h
            replace N4 := Aside0.mk N4
            cases t4 with
            | true =>
              rw [if_pos rfl] at h
              obtain ⟨rfl, rfl⟩ := Prod.mk.inj (Option.some.inj h)
              clear h
              go_wp2_with (first | (go_at_call 38; refine (pen_Good.calls k _ _ _ N1.out HG).mono ?_; rintro e w1 ⟨rfl, ⟨nd1, rfl⟩⟩) | (go_at_call 69; refine (strings_HasPrefix.calls _ _ _ _ N2.out ⟨HG.out.below (by repeat (first | exact Below.refl _ _ | apply pw_below_drewN))⟩).mono ?_; rintro e w2 ⟨rfl, ⟨nd2, rfl⟩⟩) | (go_at_call 69; refine (strings_HasPrefix.calls _ _ _ _ N3.out ⟨HG.out.below (by repeat (first | exact Below.refl _ _ | apply pw_below_drewN))⟩).mono ?_; rintro e w3 ⟨rfl, ⟨nd3, rfl⟩⟩) | (go_at_call 70; refine (strings_HasSuffix.calls _ _ _ _ N4.out ⟨HG.out.below (by repeat (first | exact Below.refl _ _ | apply pw_below_drewN))⟩).mono ?_; rintro e w4 ⟨rfl, ⟨nd4, rfl⟩⟩))
              go_ret2
              exact ⟨rfl, by first | exact Drawn0.refl _ | exact (Drawn0.refl _).step _⟩
            | false =>
              rw [if_neg (by decide)] at h
              obtain ⟨t5, N5, h⟩ := Option.bind_eq_some_iff.mp h
              replace N5 := Aside0.mk N5
              cases t5 with
              | true =>
                rw [if_pos rfl] at h
                obtain ⟨rfl, rfl⟩ := Prod.mk.inj (Option.some.inj h)
                clear h
                go_wp2_with (first | (go_at_call 38; refine (pen_Good.calls k _ _ _ N1.out HG).mono ?_; rintro e w1 ⟨rfl, ⟨nd1, rfl⟩⟩) | (go_at_call 69; refine (strings_HasPrefix.calls _ _ _ _ N2.out ⟨HG.out.below (by repeat (first | exact Below.refl _ _ | apply pw_below_drewN))⟩).mono ?_; rintro e w2 ⟨rfl, ⟨nd2, rfl⟩⟩) | (go_at_call 69; refine (strings_HasPrefix.calls _ _ _ _ N3.out ⟨HG.out.below (by repeat (first | exact Below.refl _ _ | apply pw_below_drewN))⟩).mono ?_; rintro e w3 ⟨rfl, ⟨nd3, rfl⟩⟩) | (go_at_call 70; refine (strings_HasSuffix.calls _ _ _ _ N4.out ⟨HG.out.below (by repeat (first | exact Below.refl _ _ | apply pw_below_drewN))⟩).mono ?_; rintro e w4 ⟨rfl, ⟨nd4, rfl⟩⟩) | (go_at_call 70; refine (strings_HasSuffix.calls _ _ _ _ N5.out ⟨HG.out.below (by repeat (first | exact Below.refl _ _ | apply pw_below_drewN))⟩).mono ?_; rintro e w5 ⟨rfl, ⟨nd5, rfl⟩⟩))
                go_ret2
                exact ⟨rfl, by first | exact Drawn0.refl _ | exact (Drawn0.refl _).step _⟩
              | false =>
                rw [if_neg (by decide)] at h
                obtain ⟨rfl, rfl⟩ := Prod.mk.inj (Option.some.inj h)
                clear h
                go_wp2_with (first | (go_at_call 38; refine (pen_Good.calls k _ _ _ N1.out HG).mono ?_; rintro e w1 ⟨rfl, ⟨nd1, rfl⟩⟩) | (go_at_call 69; refine (strings_HasPrefix.calls _ _ _ _ N2.out ⟨HG.out.below (by repeat (first | exact Below.refl _ _ | apply pw_below_drewN))⟩).mono ?_; rintro e w2 ⟨rfl, ⟨nd2, rfl⟩⟩) | (go_at_call 69; refine (strings_HasPrefix.calls _ _ _ _ N3.out ⟨HG.out.below (by repeat (first | exact Below.refl _ _ | apply pw_below_drewN))⟩).mono ?_; rintro e w3 ⟨rfl, ⟨nd3, rfl⟩⟩) | (go_at_call 70; refine (strings_HasSuffix.calls _ _ _ _ N4.out ⟨HG.out.below (by repeat (first | exact Below.refl _ _ | apply pw_below_drewN))⟩).mono ?_; rintro e w4 ⟨rfl, ⟨nd4, rfl⟩⟩) | (go_at_call 70; refine (strings_HasSuffix.calls _ _ _ _ N5.out ⟨HG.out.below (by repeat (first | exact Below.refl _ _ | apply pw_below_drewN))⟩).mono ?_; rintro e w5 ⟨rfl, ⟨nd5, rfl⟩⟩))
                go_ret2
                exact ⟨rfl, by first | exact Drawn0.refl _ | exact (Drawn0.refl _).step _⟩
end Go.Proofs.YtdoapeandigooaaDoor.P
