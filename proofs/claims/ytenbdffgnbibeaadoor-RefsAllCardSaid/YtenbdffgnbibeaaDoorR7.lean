/- Functions of the Go text as plain Lean functions, each with a proof that the machine's call comes to what it answers, under the condition that the package-level tables hold what their initialisers lay. Written by a program. -/
import Derived.Test.YtenbdffgnbibeaaDoorR0
import Derived.Test.YtenbdffgnbibeaaDoorR5
import Derived.Test.YtenbdffgnbibeaaDoorR6
namespace Go.Proofs.YtenbdffgnbibeaaDoor.R
open Go.RowKit Go.Proofs.YtenbdffgnbibeaaDoorW.PrintWords Go.Proofs.YtenbdffgnbibeaaDoorW.PrintLast Go.Proofs.YtenbdffgnbibeaaDoorW.PrintMore
attribute [local go_sem] max2_int min2_int max_two min_two max_three min_three max_four min_four   -- for this text's walks alone
set_option linter.unusedVariables false
set_option linter.unusedSimpArgs false

/-! ### rectoref04_Loose: function 62 -/
def rectoref04_Loose.f (k : Nat) (a0 : ByteArray) : Option (Bool) := if a0.toList = ([110, 111, 116, 105, 110] : List UInt8) then (some false) else (if a0.toList = ([101, 117, 114, 111] : List UInt8) then (some false) else (if a0.toList = ([104, 101, 108, 108, 105, 112] : List UInt8) then (some false) else (if a0.toList = ([109, 100, 97, 115, 104] : List UInt8) then (some false) else (if a0.toList = ([110, 100, 97, 115, 104] : List UInt8) then (some false) else (if a0.toList = ([97, 108, 112, 104, 97] : List UInt8) then (some false) else (if a0.toList = ([98, 101, 116, 97] : List UInt8) then (some false) else (if a0.toList = ([114, 97, 114, 114] : List UInt8) then (some false) else (if a0.toList = ([108, 97, 114, 114] : List UInt8) then (some false) else (if a0.toList = ([97, 112, 111, 115] : List UInt8) then (some false) else ((rectoref04_Name.f k a0).bind fun t171 => (some (t171 != 0))))))))))))
theorem rectoref04_Loose.mono : ∀ a0 k, LeO (rectoref04_Loose.f k a0) (rectoref04_Loose.f (k + 1) a0) := by
  intro a0 k
  unfold rectoref04_Loose.f
  repeat' first
      | (with_reducible exact rectoref04_Name.mono _ _)
      | (with_reducible exact LeO.refl _)
      | (with_reducible exact LeO.none _)
      | (with_reducible refine LeO.ite ?_ ?_)
      | (with_reducible refine LeO.bind ?_ (fun _ => ?_))
      | exact rectoref04_Name.mono _ _
      | exact LeO.none _
      | refine LeO.ite ?_ ?_
      | refine LeO.bind ?_ (fun _ => ?_)
set_option maxHeartbeats 8000000 in
set_option maxRecDepth 100000 in
theorem rectoref04_Loose.calls (k : Nat) (a0 : ByteArray) (r : Bool) (w : World) (h : rectoref04_Loose.f k a0 = some r) (HG : Aside0 (Laid w)) :
    Calls Tryd.prog 62 #[.string a0] w fun e w' => e = .returned (.bool r) ∧ Below w.heap.size w w' := by
  have HB := Aside0.mk (Below.refl w.heap.size w)
  have H : (if a0.toList = ([110, 111, 116, 105, 110] : List UInt8) then (some false) else (if a0.toList = ([101, 117, 114, 111] : List UInt8) then (some false) else (if a0.toList = ([104, 101, 108, 108, 105, 112] : List UInt8) then (some false) else (if a0.toList = ([109, 100, 97, 115, 104] : List UInt8) then (some false) else (if a0.toList = ([110, 100, 97, 115, 104] : List UInt8) then (some false) else (if a0.toList = ([97, 108, 112, 104, 97] : List UInt8) then (some false) else (if a0.toList = ([98, 101, 116, 97] : List UInt8) then (some false) else (if a0.toList = ([114, 97, 114, 114] : List UInt8) then (some false) else (if a0.toList = ([108, 97, 114, 114] : List UInt8) then (some false) else (if a0.toList = ([97, 112, 111, 115] : List UInt8) then (some false) else ((rectoref04_Name.f k a0).bind fun t171 => (some (t171 != 0))))))))))))) = some r := h
  clear h
  by_cases c2 : a0.toList = ([110, 111, 116, 105, 110] : List UInt8)
  · rw [if_pos c2] at H
    have c2b0 : (a0.toList == ([110, 111, 116, 105, 110] : List UInt8)) = true := beq_iff_eq.mpr c2
    have c2b1 : (a0.toList != ([110, 111, 116, 105, 110] : List UInt8)) = false := bne_eq_false_iff_eq.mpr c2
    clear c2
    obtain rfl := Option.some.inj H
    go_enter Tryd.func62, Tryd.ntmps62
    go_wp2
    go_ret
    exact ⟨by first | rfl | (simp [errW_none, errW_some] <;> rfl) | (simp [*, errW_none, errW_some] <;> rfl), by repeat (first | (with_reducible first | exact HB.out | apply below_alloc | apply pw_below_drewN | apply below_drew1) | exact HB.out)⟩
  · rw [if_neg c2] at H
    have c2b0 : (a0.toList == ([110, 111, 116, 105, 110] : List UInt8)) = false := beq_eq_false_iff_ne.mpr c2
    have c2b1 : (a0.toList != ([110, 111, 116, 105, 110] : List UInt8)) = true := bne_iff_ne.mpr c2
    by_cases c3 : a0.toList = ([101, 117, 114, 111] : List UInt8)
    · rw [if_pos c3] at H
      have c3b0 : (a0.toList == ([101, 117, 114, 111] : List UInt8)) = true := beq_iff_eq.mpr c3
      have c3b1 : (a0.toList != ([101, 117, 114, 111] : List UInt8)) = false := bne_eq_false_iff_eq.mpr c3
      clear c3
      obtain rfl := Option.some.inj H
      go_enter Tryd.func62, Tryd.ntmps62
      go_wp2
      go_ret
      exact ⟨by first | rfl | (simp [errW_none, errW_some] <;> rfl) | (simp [*, errW_none, errW_some] <;> rfl), by repeat (first | (with_reducible first | exact HB.out | apply below_alloc | apply pw_below_drewN | apply below_drew1) | exact HB.out)⟩
    · rw [if_neg c3] at H
      have c3b0 : (a0.toList == ([101, 117, 114, 111] : List UInt8)) = false := beq_eq_false_iff_ne.mpr c3
      have c3b1 : (a0.toList != ([101, 117, 114, 111] : List UInt8)) = true := bne_iff_ne.mpr c3
      by_cases c4 : a0.toList = ([104, 101, 108, 108, 105, 112] : List UInt8)
      · rw [if_pos c4] at H
        have c4b0 : (a0.toList == ([104, 101, 108, 108, 105, 112] : List UInt8)) = true := beq_iff_eq.mpr c4
        have c4b1 : (a0.toList != ([104, 101, 108, 108, 105, 112] : List UInt8)) = false := bne_eq_false_iff_eq.mpr c4
        clear c4
        obtain rfl := Option.some.inj H
        go_enter Tryd.func62, Tryd.ntmps62
        go_wp2
        go_ret
        exact ⟨by first | rfl | (simp [errW_none, errW_some] <;> rfl) | (simp [*, errW_none, errW_some] <;> rfl), by repeat (first | (with_reducible first | exact HB.out | apply below_alloc | apply pw_below_drewN | apply below_drew1) | exact HB.out)⟩
      · rw [if_neg c4] at H
        have c4b0 : (a0.toList == ([104, 101, 108, 108, 105, 112] : List UInt8)) = false := beq_eq_false_iff_ne.mpr c4
        have c4b1 : (a0.toList != ([104, 101, 108, 108, 105, 112] : List UInt8)) = true := bne_iff_ne.mpr c4
        by_cases c5 : a0.toList = ([109, 100, 97, 115, 104] : List UInt8)
        · rw [if_pos c5] at H
          have c5b0 : (a0.toList == ([109, 100, 97, 115, 104] : List UInt8)) = true := beq_iff_eq.mpr c5
          have c5b1 : (a0.toList != ([109, 100, 97, 115, 104] : List UInt8)) = false := bne_eq_false_iff_eq.mpr c5
          clear c5
          obtain rfl := Option.some.inj H
          go_enter Tryd.func62, Tryd.ntmps62
          go_wp2
          go_ret
          exact ⟨by first | rfl | (simp [errW_none, errW_some] <;> rfl) | (simp [*, errW_none, errW_some] <;> rfl), by repeat (first | (with_reducible first | exact HB.out | apply below_alloc | apply pw_below_drewN | apply below_drew1) | exact HB.out)⟩
        · rw [if_neg c5] at H
          have c5b0 : (a0.toList == ([109, 100, 97, 115, 104] : List UInt8)) = false := beq_eq_false_iff_ne.mpr c5
          have c5b1 : (a0.toList != ([109, 100, 97, 115, 104] : List UInt8)) = true := bne_iff_ne.mpr c5
          by_cases c6 : a0.toList = ([110, 100, 97, 115, 104] : List UInt8)
          · rw [if_pos c6] at H
            have c6b0 : (a0.toList == ([110, 100, 97, 115, 104] : List UInt8)) = true := beq_iff_eq.mpr c6
            have c6b1 : (a0.toList != ([110, 100, 97, 115, 104] : List UInt8)) = false := bne_eq_false_iff_eq.mpr c6
            clear c6
            obtain rfl := Option.some.inj H
            go_enter Tryd.func62, Tryd.ntmps62
            go_wp2
            go_ret
            exact ⟨by first | rfl | (simp [errW_none, errW_some] <;> rfl) | (simp [*, errW_none, errW_some] <;> rfl), by repeat (first | (with_reducible first | exact HB.out | apply below_alloc | apply pw_below_drewN | apply below_drew1) | exact HB.out)⟩
          · rw [if_neg c6] at H
            have c6b0 : (a0.toList == ([110, 100, 97, 115, 104] : List UInt8)) = false := beq_eq_false_iff_ne.mpr c6
            have c6b1 : (a0.toList != ([110, 100, 97, 115, 104] : List UInt8)) = true := bne_iff_ne.mpr c6
            by_cases c7 : a0.toList = ([97, 108, 112, 104, 97] : List UInt8)
            · rw [if_pos c7] at H
              have c7b0 : (a0.toList == ([97, 108, 112, 104, 97] : List UInt8)) = true := beq_iff_eq.mpr c7
              have c7b1 : (a0.toList != ([97, 108, 112, 104, 97] : List UInt8)) = false := bne_eq_false_iff_eq.mpr c7
              clear c7
              obtain rfl := Option.some.inj H
              go_enter Tryd.func62, Tryd.ntmps62
              go_wp2
              go_ret
              exact ⟨by first | rfl | (simp [errW_none, errW_some] <;> rfl) | (simp [*, errW_none, errW_some] <;> rfl), by repeat (first | (with_reducible first | exact HB.out | apply below_alloc | apply pw_below_drewN | apply below_drew1) | exact HB.out)⟩
            · rw [if_neg c7] at H
              have c7b0 : (a0.toList == ([97, 108, 112, 104, 97] : List UInt8)) = false := beq_eq_false_iff_ne.mpr c7
              have c7b1 : (a0.toList != ([97, 108, 112, 104, 97] : List UInt8)) = true := bne_iff_ne.mpr c7
              by_cases c8 : a0.toList = ([98, 101, 116, 97] : List UInt8)
              · rw [if_pos c8] at H
                have c8b0 : (a0.toList == ([98, 101, 116, 97] : List UInt8)) = true := beq_iff_eq.mpr c8
                have c8b1 : (a0.toList != ([98, 101, 116, 97] : List UInt8)) = false := bne_eq_false_iff_eq.mpr c8
                clear c8
                obtain rfl := Option.some.inj H
                go_enter Tryd.func62, Tryd.ntmps62
                go_wp2
                go_ret
                exact ⟨by first | rfl | (simp [errW_none, errW_some] <;> rfl) | (simp [*, errW_none, errW_some] <;> rfl), by repeat (first | (with_reducible first | exact HB.out | apply below_alloc | apply pw_below_drewN | apply below_drew1) | exact HB.out)⟩
              · rw [if_neg c8] at H
                have c8b0 : (a0.toList == ([98, 101, 116, 97] : List UInt8)) = false := beq_eq_false_iff_ne.mpr c8
                have c8b1 : (a0.toList != ([98, 101, 116, 97] : List UInt8)) = true := bne_iff_ne.mpr c8
                by_cases c9 : a0.toList = ([114, 97, 114, 114] : List UInt8)
                · rw [if_pos c9] at H
                  have c9b0 : (a0.toList == ([114, 97, 114, 114] : List UInt8)) = true := beq_iff_eq.mpr c9
                  have c9b1 : (a0.toList != ([114, 97, 114, 114] : List UInt8)) = false := bne_eq_false_iff_eq.mpr c9
                  clear c9
                  obtain rfl := Option.some.inj H
                  go_enter Tryd.func62, Tryd.ntmps62
                  go_wp2
                  go_ret
                  exact ⟨by first | rfl | (simp [errW_none, errW_some] <;> rfl) | (simp [*, errW_none, errW_some] <;> rfl), by repeat (first | (with_reducible first | exact HB.out | apply below_alloc | apply pw_below_drewN | apply below_drew1) | exact HB.out)⟩
                · rw [if_neg c9] at H
                  have c9b0 : (a0.toList == ([114, 97, 114, 114] : List UInt8)) = false := beq_eq_false_iff_ne.mpr c9
                  have c9b1 : (a0.toList != ([114, 97, 114, 114] : List UInt8)) = true := bne_iff_ne.mpr c9
                  by_cases c10 : a0.toList = ([108, 97, 114, 114] : List UInt8)
                  · rw [if_pos c10] at H
                    have c10b0 : (a0.toList == ([108, 97, 114, 114] : List UInt8)) = true := beq_iff_eq.mpr c10
                    have c10b1 : (a0.toList != ([108, 97, 114, 114] : List UInt8)) = false := bne_eq_false_iff_eq.mpr c10
                    clear c10
                    obtain rfl := Option.some.inj H
                    go_enter Tryd.func62, Tryd.ntmps62
                    go_wp2
                    go_ret
                    exact ⟨by first | rfl | (simp [errW_none, errW_some] <;> rfl) | (simp [*, errW_none, errW_some] <;> rfl), by repeat (first | (with_reducible first | exact HB.out | apply below_alloc | apply pw_below_drewN | apply below_drew1) | exact HB.out)⟩
                  · rw [if_neg c10] at H
                    have c10b0 : (a0.toList == ([108, 97, 114, 114] : List UInt8)) = false := beq_eq_false_iff_ne.mpr c10
                    have c10b1 : (a0.toList != ([108, 97, 114, 114] : List UInt8)) = true := bne_iff_ne.mpr c10
                    by_cases c11 : a0.toList = ([97, 112, 111, 115] : List UInt8)
                    · rw [if_pos c11] at H
                      have c11b0 : (a0.toList == ([97, 112, 111, 115] : List UInt8)) = true := beq_iff_eq.mpr c11
                      have c11b1 : (a0.toList != ([97, 112, 111, 115] : List UInt8)) = false := bne_eq_false_iff_eq.mpr c11
                      clear c11
                      obtain rfl := Option.some.inj H
                      go_enter Tryd.func62, Tryd.ntmps62
                      go_wp2
                      go_ret
                      exact ⟨by first | rfl | (simp [errW_none, errW_some] <;> rfl) | (simp [*, errW_none, errW_some] <;> rfl), by repeat (first | (with_reducible first | exact HB.out | apply below_alloc | apply pw_below_drewN | apply below_drew1) | exact HB.out)⟩
                    · rw [if_neg c11] at H
                      have c11b0 : (a0.toList == ([97, 112, 111, 115] : List UInt8)) = false := beq_eq_false_iff_ne.mpr c11
                      have c11b1 : (a0.toList != ([97, 112, 111, 115] : List UInt8)) = true := bne_iff_ne.mpr c11
                      replace H := Option.bind_eq_some_iff.mp H
                      obtain ⟨t171, A120, H⟩ := H
                      replace H : (some (t171 != 0)) = some r := H
                      have A12 := Aside0.mk A120
                      clear A120
                      obtain rfl := Option.some.inj H
                      go_enter Tryd.func62, Tryd.ntmps62
                      go_wp2_with (first | ((with_reducible refine gate_callee (f := 33) rfl ?_); refine goesL_ (some 16) rfl rfl Tryd.func33 (by kernel_rfl) rfl #[.string a0] rfl (by (try simp only [List.map_toArray, List.map_cons, List.map_nil]); first | done | rfl | (simp only [List.length_drop, List.length_take]; rfl)) ?_; (with_reducible refine (rectoref04_Name.calls k a0 t171 _ A12.out ?side1).mono ?_); (case side1 => exact Aside0.mk (Laid.below HG.out (by repeat (first | (with_reducible first | exact HB.out | apply below_alloc | apply pw_below_drewN | apply below_drew1) | exact HB.out)))); rintro e w13 ⟨rfl, hb⟩; refine ⟨_, rfl, ?_⟩; have n0_ := Aside0.mk (below_step (by repeat (first | (with_reducible first | exact HB.out | apply below_alloc | apply pw_below_drewN | apply below_drew1) | exact HB.out)) hb); clear HB; have HB := n0_; clear n0_; (try clear hb); (try clear hb2); (try clear hk); (try clear hi)))
                      go_ret
                      exact ⟨by first | rfl | (simp [errW_none, errW_some] <;> rfl) | (simp [*, errW_none, errW_some] <;> rfl), by repeat (first | (with_reducible first | exact HB.out | apply below_alloc | apply pw_below_drewN | apply below_drew1) | exact HB.out)⟩

/-! ### rectoref04_named: function 49 -/
mutual
def rectoref04_named.l0 : Nat → ByteArray → Int → Bool → Int → Option (ByteArray × Int)
  | 0, _, _, _, _ => none
  | k + 1, x0, x1, x2, x7 => if x7 > 0 then (if x7 > (wrap64 ((x0.size : Int) - x1)) then (rectoref04_named.l0 k x0 x1 x2 (wrap64 (x7 - 1))) else (if 0 ≤ x1 then (if x1 ≤ (wrap64 (x1 + x7)) then (if (wrap64 (x1 + x7)) ≤ (x0.size : Int) then (if 0 ≤ (wrap64 (x7 - 1)) then (if (wrap64 (x7 - 1)) < ((x0.extract (x1 : Int).toNat ((wrap64 (x1 + x7)) : Int).toNat).size : Int) then (if (bt (x0.extract (x1 : Int).toNat ((wrap64 (x1 + x7)) : Int).toNat) (wrap64 (x7 - 1))) = 59 then (if (wrap64 (x7 - 1)) ≤ ((x0.extract (x1 : Int).toNat ((wrap64 (x1 + x7)) : Int).toNat).size : Int) then ((rectoref04_Name.f k ((x0.extract (x1 : Int).toNat ((wrap64 (x1 + x7)) : Int).toNat).extract 0 ((wrap64 (x7 - 1)) : Int).toNat)).bind fun t173 => (rectoref04_named.j1 k x0 x1 x2 x7 (x0.extract (x1 : Int).toNat ((wrap64 (x1 + x7)) : Int).toNat) (t173 != 0))) else (none)) else (rectoref04_named.j1 k x0 x1 x2 x7 (x0.extract (x1 : Int).toNat ((wrap64 (x1 + x7)) : Int).toNat) false)) else (none)) else (none)) else (none)) else (none)) else (none))) else (some ((⟨#[]⟩ : ByteArray), (-1)))
def rectoref04_named.j1 : Nat → ByteArray → Int → Bool → Int → ByteArray → Bool → Option (ByteArray × Int)
  | 0, _, _, _, _, _, _ => none
  | k + 1, x0, x1, x2, x7, x8, x39 => if x39 = true then (if 0 ≤ (wrap64 (x7 - 1)) then (if (wrap64 (x7 - 1)) ≤ (x8.size : Int) then ((rectoref04_Name.f k (x8.extract 0 ((wrap64 (x7 - 1)) : Int).toNat)).bind fun t174 => ((rectoref02_Bytes.f k t174).bind fun t175 => (some (t175, wrap64 (x1 + x7))))) else (none)) else (none)) else ((rectoref04_at.f x0 (wrap64 (x1 + x7))).bind fun t176 => (if x2 = true then (if t176 = 61 then (rectoref04_named.j2 k x0 x1 x2 x7 x8 true) else ((rectoref03_Letter.f t176).bind fun t177 => (if t177 = true then (rectoref04_named.j2 k x0 x1 x2 x7 x8 true) else ((rectoref03_Digit.f t176).bind fun t178 => (rectoref04_named.j2 k x0 x1 x2 x7 x8 t178))))) else (rectoref04_named.j2 k x0 x1 x2 x7 x8 false)))
def rectoref04_named.j2 : Nat → ByteArray → Int → Bool → Int → ByteArray → Bool → Option (ByteArray × Int)
  | 0, _, _, _, _, _, _ => none
  | k + 1, x0, x1, x2, x7, x8, x10 => (rectoref04_Loose.f k x8).bind fun t179 => (if t179 = true then (rectoref04_named.j3 k x0 x1 x2 x7 x8 (!x10)) else (rectoref04_named.j3 k x0 x1 x2 x7 x8 false))
def rectoref04_named.j3 : Nat → ByteArray → Int → Bool → Int → ByteArray → Bool → Option (ByteArray × Int)
  | 0, _, _, _, _, _, _ => none
  | k + 1, x0, x1, x2, x7, x8, x73 => if x73 = true then ((rectoref04_Name.f k x8).bind fun t180 => ((rectoref02_Bytes.f k t180).bind fun t181 => (some (t181, wrap64 (x1 + x7))))) else (rectoref04_named.l0 k x0 x1 x2 (wrap64 (x7 - 1)))
end
def rectoref04_named.f (k : Nat) (a0 : ByteArray) (a1 : Int) (a2 : Bool) : Option (ByteArray × Int) := rectoref04_named.l0 k a0 a1 a2 7
theorem rectoref04_named.mono_l : ∀ k, (∀ y0 y1 y2 y3, LeO (rectoref04_named.l0 k y0 y1 y2 y3) (rectoref04_named.l0 (k + 1) y0 y1 y2 y3)) ∧ (∀ y0 y1 y2 y3 y4 y5, LeO (rectoref04_named.j1 k y0 y1 y2 y3 y4 y5) (rectoref04_named.j1 (k + 1) y0 y1 y2 y3 y4 y5)) ∧ (∀ y0 y1 y2 y3 y4 y5, LeO (rectoref04_named.j2 k y0 y1 y2 y3 y4 y5) (rectoref04_named.j2 (k + 1) y0 y1 y2 y3 y4 y5)) ∧ (∀ y0 y1 y2 y3 y4 y5, LeO (rectoref04_named.j3 k y0 y1 y2 y3 y4 y5) (rectoref04_named.j3 (k + 1) y0 y1 y2 y3 y4 y5))
  | 0 => ⟨fun _ _ _ _ r h => by simp [rectoref04_named.l0] at h, fun _ _ _ _ _ _ r h => by simp [rectoref04_named.j1] at h, fun _ _ _ _ _ _ r h => by simp [rectoref04_named.j2] at h, fun _ _ _ _ _ _ r h => by simp [rectoref04_named.j3] at h⟩
  | k + 1 => by
    obtain ⟨ih0, ih1, ih2, ih3⟩ := rectoref04_named.mono_l k
    refine ⟨?_, ?_, ?_, ?_⟩
    · intro y0 y1 y2 y3
      unfold rectoref04_named.l0
      repeat' first
      | (with_reducible exact ih0 _ _ _ _)
      | (with_reducible exact ih1 _ _ _ _ _ _)
      | (with_reducible exact ih2 _ _ _ _ _ _)
      | (with_reducible exact ih3 _ _ _ _ _ _)
      | (with_reducible exact rectoref02_Bytes.mono _ _)
      | (with_reducible exact rectoref04_Loose.mono _ _)
      | (with_reducible exact rectoref04_Name.mono _ _)
      | (with_reducible exact LeO.refl _)
      | (with_reducible exact LeO.none _)
      | (with_reducible refine LeO.ite ?_ ?_)
      | (with_reducible refine LeO.bind ?_ (fun _ => ?_))
      | exact ih0 _ _ _ _
      | exact ih1 _ _ _ _ _ _
      | exact ih2 _ _ _ _ _ _
      | exact ih3 _ _ _ _ _ _
      | exact rectoref02_Bytes.mono _ _
      | exact rectoref04_Loose.mono _ _
      | exact rectoref04_Name.mono _ _
      | exact LeO.none _
      | refine LeO.ite ?_ ?_
      | refine LeO.bind ?_ (fun _ => ?_)
    · intro y0 y1 y2 y3 y4 y5
      unfold rectoref04_named.j1
      repeat' first
      | (with_reducible exact ih0 _ _ _ _)
      | (with_reducible exact ih1 _ _ _ _ _ _)
      | (with_reducible exact ih2 _ _ _ _ _ _)
      | (with_reducible exact ih3 _ _ _ _ _ _)
      | (with_reducible exact rectoref02_Bytes.mono _ _)
      | (with_reducible exact rectoref04_Loose.mono _ _)
      | (with_reducible exact rectoref04_Name.mono _ _)
      | (with_reducible exact LeO.refl _)
      | (with_reducible exact LeO.none _)
      | (with_reducible refine LeO.ite ?_ ?_)
      | (with_reducible refine LeO.bind ?_ (fun _ => ?_))
      | exact ih0 _ _ _ _
      | exact ih1 _ _ _ _ _ _
      | exact ih2 _ _ _ _ _ _
      | exact ih3 _ _ _ _ _ _
      | exact rectoref02_Bytes.mono _ _
      | exact rectoref04_Loose.mono _ _
      | exact rectoref04_Name.mono _ _
      | exact LeO.none _
      | refine LeO.ite ?_ ?_
      | refine LeO.bind ?_ (fun _ => ?_)
    · intro y0 y1 y2 y3 y4 y5
      unfold rectoref04_named.j2
      repeat' first
      | (with_reducible exact ih0 _ _ _ _)
      | (with_reducible exact ih1 _ _ _ _ _ _)
      | (with_reducible exact ih2 _ _ _ _ _ _)
      | (with_reducible exact ih3 _ _ _ _ _ _)
      | (with_reducible exact rectoref02_Bytes.mono _ _)
      | (with_reducible exact rectoref04_Loose.mono _ _)
      | (with_reducible exact rectoref04_Name.mono _ _)
      | (with_reducible exact LeO.refl _)
      | (with_reducible exact LeO.none _)
      | (with_reducible refine LeO.ite ?_ ?_)
      | (with_reducible refine LeO.bind ?_ (fun _ => ?_))
      | exact ih0 _ _ _ _
      | exact ih1 _ _ _ _ _ _
      | exact ih2 _ _ _ _ _ _
      | exact ih3 _ _ _ _ _ _
      | exact rectoref02_Bytes.mono _ _
      | exact rectoref04_Loose.mono _ _
      | exact rectoref04_Name.mono _ _
      | exact LeO.none _
      | refine LeO.ite ?_ ?_
      | refine LeO.bind ?_ (fun _ => ?_)
    · intro y0 y1 y2 y3 y4 y5
      unfold rectoref04_named.j3
      repeat' first
      | (with_reducible exact ih0 _ _ _ _)
      | (with_reducible exact ih1 _ _ _ _ _ _)
      | (with_reducible exact ih2 _ _ _ _ _ _)
      | (with_reducible exact ih3 _ _ _ _ _ _)
      | (with_reducible exact rectoref02_Bytes.mono _ _)
      | (with_reducible exact rectoref04_Loose.mono _ _)
      | (with_reducible exact rectoref04_Name.mono _ _)
      | (with_reducible exact LeO.refl _)
      | (with_reducible exact LeO.none _)
      | (with_reducible refine LeO.ite ?_ ?_)
      | (with_reducible refine LeO.bind ?_ (fun _ => ?_))
      | exact ih0 _ _ _ _
      | exact ih1 _ _ _ _ _ _
      | exact ih2 _ _ _ _ _ _
      | exact ih3 _ _ _ _ _ _
      | exact rectoref02_Bytes.mono _ _
      | exact rectoref04_Loose.mono _ _
      | exact rectoref04_Name.mono _ _
      | exact LeO.none _
      | refine LeO.ite ?_ ?_
      | refine LeO.bind ?_ (fun _ => ?_)
theorem rectoref04_named.mono : ∀ a0 a1 a2 k, LeO (rectoref04_named.f k a0 a1 a2) (rectoref04_named.f (k + 1) a0 a1 a2) := by
  intro a0 a1 a2 k
  obtain ⟨ih0, ih1, ih2, ih3⟩ := rectoref04_named.mono_l k
  unfold rectoref04_named.f
  repeat' first
      | (with_reducible exact ih0 _ _ _ _)
      | (with_reducible exact ih1 _ _ _ _ _ _)
      | (with_reducible exact ih2 _ _ _ _ _ _)
      | (with_reducible exact ih3 _ _ _ _ _ _)
      | (with_reducible exact rectoref02_Bytes.mono _ _)
      | (with_reducible exact rectoref04_Loose.mono _ _)
      | (with_reducible exact rectoref04_Name.mono _ _)
      | (with_reducible exact LeO.refl _)
      | (with_reducible exact LeO.none _)
      | (with_reducible refine LeO.ite ?_ ?_)
      | (with_reducible refine LeO.bind ?_ (fun _ => ?_))
      | exact ih0 _ _ _ _
      | exact ih1 _ _ _ _ _ _
      | exact ih2 _ _ _ _ _ _
      | exact ih3 _ _ _ _ _ _
      | exact rectoref02_Bytes.mono _ _
      | exact rectoref04_Loose.mono _ _
      | exact rectoref04_Name.mono _ _
      | exact LeO.none _
      | refine LeO.ite ?_ ?_
      | refine LeO.bind ?_ (fun _ => ?_)
set_option maxHeartbeats 8000000 in
set_option maxRecDepth 100000 in
theorem rectoref04_named.calls (k : Nat) (a0 : ByteArray) (a1 : Int) (a2 : Bool) (r1 : ByteArray) (r2 : Int) (w : World) (h : rectoref04_named.f k a0 a1 a2 = some (r1, r2)) (HG : Aside0 (Laid w)) :
    Calls Tryd.prog 49 #[.string a0, .int .i64 a1, .bool a2] w fun e w' => e = .returned (.agg #[.string r1, .int .i64 r2]) ∧ Below w.heap.size w w' := by
  have hu47 := Tryd.underlying47
  have HB := Aside0.mk (Below.refl w.heap.size w)
  have H : (rectoref04_named.l0 k a0 a1 a2 7) = some (r1, r2) := h
  clear h
  have H' := Aside0.mk H
  clear H
  go_enter Tryd.func49, Tryd.ntmps49
  go_wp2_with (first | ((with_reducible refine gate_dst (N := 6) rfl ?_); refine box_event ?hg (N := 6) ?hd (cs := #[.string (⟨#[]⟩ : ByteArray), .int .i64 0]) (t := 47) ?hr ?_; (case hd => rfl); (case hg => rfl); (case hr => first | (go_simp; done) | (go_simp; rfl)); intro gb172 hg w4 hbox hb; have n0_ := Aside0.mk (below_step (by repeat (first | (with_reducible first | exact HB.out | apply below_alloc | apply pw_below_drewN | apply below_drew1) | exact HB.out)) hb); have n1_ := Aside0.mk (hbox); have n2_ := Aside0.mk ((by rw [hg]; exact (below_size (by repeat (first | (with_reducible first | exact HB.out | apply below_alloc | apply pw_below_drewN | apply below_drew1) | exact HB.out))) : w.heap.size ≤ gb172)); have n3_ := Aside0.mk ((by rw [hg]; exact (below_size (by repeat (first | (with_reducible first | exact HB.out | apply below_alloc | apply pw_below_drewN | apply below_drew1) | exact HB.out))) : w.heap.size ≤ gb172)); clear HB; have HB := n0_; have BK172 := n1_; have GW172 := n2_; have GE172 := n3_; clear n0_ n1_ n2_ n3_; clear hb hbox hg))
  go_loopg [7] k (fun kq v7 w' => ∃ (x7_1 : Int) (x173000_1 : ByteArray) (x173001_1 : Int), v7 = .int .i64 x7_1 ∧ Aside0 (rectoref04_named.l0 kq a0 a1 a2 x7_1 = some (r1, r2)) ∧ Aside0 (kq ≤ k) ∧ Aside0 (w'.heap[gb172]? = some (.cells #[.string x173000_1, .int .i64 x173001_1] 47 (0, 0))) ∧ Aside0 (Below w.heap.size w w'))
  case atStart => exact ⟨(7), ((⟨#[]⟩ : ByteArray)), (0), (by first | rfl | (simp; done) | (simp [*]; done)), H', ⟨Nat.le_refl _⟩, ⟨by (with_reducible repeat (first | refine blk_drewN ?_ _ | refine blk_drew ?_ | refine blk_alloc ?_ _)); exact BK172.out⟩, ⟨by repeat (first | (with_reducible first | exact HB.out | apply below_alloc | apply pw_below_drewN | apply below_drew1 | refine below_set ?_ GE172.out) | exact HB.out)⟩⟩
  case round =>
    clear H'
    try clear p2
    try clear c4
    obtain ⟨x7_1, x173000_1, x173001_1, rfl, HA, HK1, BK172, HB⟩ := hrel
    cases gk with
    | zero => exact absurd HA.out (by simp [rectoref04_named.l0])
    | succ k1 =>
      have H := HA.out
      clear HA
      simp only [rectoref04_named.l0] at H
      by_cases c5 : x7_1 > 0
      · rw [if_pos c5] at H
        have c5b0 : decide (0 < x7_1) = true := decide_eq_true c5
        clear c5
        by_cases c6 : x7_1 > (wrap64 ((a0.size : Int) - a1))
        · rw [if_pos c6] at H
          have c6b0 : decide ((wrap64 ((a0.size : Int) - a1)) < x7_1) = true := decide_eq_true c6
          clear c6
          have H' := Aside0.mk H
          clear H
          go_wp2
          go_roundg k1
          case measure => have := HK1.out; omega
          case rel => exact ⟨(wrap64 (x7_1 - 1)), (x173000_1), (x173001_1), (by first | rfl | (simp; done) | (simp [*]; done)), H', ⟨by have := HK1.out; omega⟩, ⟨by (with_reducible repeat (first | refine blk_drewN ?_ _ | refine blk_drew ?_ | refine blk_alloc ?_ _)); exact BK172.out⟩, ⟨by repeat (first | (with_reducible first | exact HB.out | apply below_alloc | apply pw_below_drewN | apply below_drew1 | refine below_set ?_ GE172.out) | exact HB.out)⟩⟩
        · rw [if_neg c6] at H
          have c6b0 : decide ((wrap64 ((a0.size : Int) - a1)) < x7_1) = false := decide_eq_false c6
          clear c6
          by_cases c7 : 0 ≤ a1
          · rw [if_pos c7] at H
            have c7b0 := eq_true c7
            have c7b1 : decide (0 ≤ a1) = true := decide_eq_true c7
            clear c7
            by_cases c8 : a1 ≤ (wrap64 (a1 + x7_1))
            · rw [if_pos c8] at H
              have c8b0 := eq_true c8
              have c8b1 : decide (a1 ≤ (wrap64 (a1 + x7_1))) = true := decide_eq_true c8
              by_cases c9 : (wrap64 (a1 + x7_1)) ≤ (a0.size : Int)
              · rw [if_pos c9] at H
                have c9b0 := eq_true c9
                have c9b1 : decide ((wrap64 (a1 + x7_1)) ≤ (a0.size : Int)) = true := decide_eq_true c9
                have HC10 := Aside0.mk H
                clear H
                go_upto_region 6 with (fail)
                go_cut [39] (fun v39 wc => ∃ (kq : Nat) (x39_9 : Bool), v39 = .bool x39_9 ∧ Aside0 (rectoref04_named.j1 kq a0 a1 a2 x7_1 (a0.extract (a1 : Int).toNat ((wrap64 (a1 + x7_1)) : Int).toNat) x39_9 = some (r1, r2)) ∧ Aside0 (kq ≤ k1) ∧ Aside0 (wc.heap[gb172]? = some (.cells #[.string x173000_1, .int .i64 x173001_1] 47 (0, 0))) ∧ Aside0 (Below w.heap.size w wc))
                case first =>
                  have H := HC10.out
                  clear HC10
                  obtain ⟨ji11, hji11⟩ : ∃ j_ : Int, (wrap64 (x7_1 - 1)) = j_ := ⟨_, rfl⟩
                  replace H : (if 0 ≤ (ji11) then (if (ji11) < ((a0.extract (a1 : Int).toNat ((wrap64 (a1 + x7_1)) : Int).toNat).size : Int) then (if (bt (a0.extract (a1 : Int).toNat ((wrap64 (a1 + x7_1)) : Int).toNat) (ji11)) = 59 then (if (ji11) ≤ ((a0.extract (a1 : Int).toNat ((wrap64 (a1 + x7_1)) : Int).toNat).size : Int) then ((rectoref04_Name.f k1 ((a0.extract (a1 : Int).toNat ((wrap64 (a1 + x7_1)) : Int).toNat).extract 0 ((ji11) : Int).toNat)).bind fun t173 => (rectoref04_named.j1 k1 a0 a1 a2 x7_1 (a0.extract (a1 : Int).toNat ((wrap64 (a1 + x7_1)) : Int).toNat) (t173 != 0))) else (none)) else (rectoref04_named.j1 k1 a0 a1 a2 x7_1 (a0.extract (a1 : Int).toNat ((wrap64 (a1 + x7_1)) : Int).toNat) false)) else (none)) else (none)) = some (r1, r2) := by first | (rw [hji11] at H; exact H) | (simp only [hji11] at H ⊢; exact H)
                  have hji11w : (IntKind.i64.wrap (x7_1 - 1)) = ji11 := (i64_w _).trans hji11
                  by_cases c12 : 0 ≤ (ji11)
                  · rw [if_pos c12] at H
                    have c12b0 : decide (0 ≤ (ji11)) = true := decide_eq_true c12
                    clear c12
                    (first | rw [c12b0] | (simp only [i64_w, i32_w]; rw [c12b0]) | skip)
                    by_cases c13 : (ji11) < ((a0.extract (a1 : Int).toNat ((wrap64 (a1 + x7_1)) : Int).toNat).size : Int)
                    · rw [if_pos c13] at H
                      have c13b0 : decide ((ji11) < ((a0.extract (a1 : Int).toNat ((wrap64 (a1 + x7_1)) : Int).toNat).size : Int)) = true := decide_eq_true c13
                      have c13b0n := c13b0
                      (try simp only [ByteArray.size_extract, Nat.min_self] at c13b0n)
                      (try rw [show min ((wrap64 (a1 + x7_1)) : Int).toNat a0.size = ((wrap64 (a1 + x7_1)) : Int).toNat by omega] at c13b0n)
                      clear c13
                      by_cases c15 : (bt (a0.extract (a1 : Int).toNat ((wrap64 (a1 + x7_1)) : Int).toNat) (ji11)) = 59
                      · rw [if_pos c15] at H
                        have c15b0 : ((bt (a0.extract (a1 : Int).toNat ((wrap64 (a1 + x7_1)) : Int).toNat) (ji11)) == 59) = true := beq_iff_eq.mpr c15
                        have c15b1 : ((bt (a0.extract (a1 : Int).toNat ((wrap64 (a1 + x7_1)) : Int).toNat) (ji11)) != 59) = false := bne_eq_false_iff_eq.mpr c15
                        clear c15
                        have c16b0 := eq_true (of_decide_eq_true (by first | (with_reducible assumption) | assumption) : 0 ≤ (ji11))
                        by_cases c17 : (ji11) ≤ ((a0.extract (a1 : Int).toNat ((wrap64 (a1 + x7_1)) : Int).toNat).size : Int)
                        · rw [if_pos c17] at H
                          have c17b0 := eq_true c17
                          (try simp only [ByteArray.size_extract, Nat.min_self] at c17b0)
                          (try rw [show min ((wrap64 (a1 + x7_1)) : Int).toNat a0.size = ((wrap64 (a1 + x7_1)) : Int).toNat by omega] at c17b0)
                          have c17b1 : decide ((ji11) ≤ ((a0.extract (a1 : Int).toNat ((wrap64 (a1 + x7_1)) : Int).toNat).size : Int)) = true := decide_eq_true c17
                          (try simp only [ByteArray.size_extract, Nat.min_self] at c17b1)
                          (try rw [show min ((wrap64 (a1 + x7_1)) : Int).toNat a0.size = ((wrap64 (a1 + x7_1)) : Int).toNat by omega] at c17b1)
                          replace H := Option.bind_eq_some_iff.mp H
                          obtain ⟨t173, A180, H⟩ := H
                          replace H : (rectoref04_named.j1 k1 a0 a1 a2 x7_1 (a0.extract (a1 : Int).toNat ((wrap64 (a1 + x7_1)) : Int).toNat) (t173 != 0)) = some (r1, r2) := H
                          have A18 := Aside0.mk A180
                          clear A180
                          have H' := Aside0.mk H
                          clear H
                          have p14 : 0 ≤ ((ji11) : Int) := of_decide_eq_true (by first | (with_reducible assumption) | assumption)
                          have q14 : (ji11) < ((a0.extract (a1 : Int).toNat ((wrap64 (a1 + x7_1)) : Int).toNat).size : Int) := of_decide_eq_true (by first | (with_reducible assumption) | assumption)
                          have hx14 := bt_at (a0.extract (a1 : Int).toNat ((wrap64 (a1 + x7_1)) : Int).toNat) (ji11)
                          replace p14 := eq_true p14
                          replace q14 := eq_true q14
                          (try simp only [ByteArray.size_extract, Nat.min_self] at q14)
                          (try rw [show min ((wrap64 (a1 + x7_1)) : Int).toNat a0.size = ((wrap64 (a1 + x7_1)) : Int).toNat by omega] at q14)
                          go_wp2_with (first | (go_at_call 33; (with_reducible refine (rectoref04_Name.calls k1 ((a0.extract (a1 : Int).toNat ((wrap64 (a1 + x7_1)) : Int).toNat).extract 0 ((ji11) : Int).toNat) t173 _ A18.out ?side1).mono ?_); (case side1 => exact Aside0.mk (Laid.below HG.out (by repeat (first | (with_reducible first | exact HB.out | apply below_alloc | apply pw_below_drewN | apply below_drew1 | refine below_set ?_ GE172.out) | exact HB.out)))); rintro e w19 ⟨rfl, hb⟩; have n0_ := Aside0.mk (blk_below (g := gb172) (o := .cells #[.string x173000_1, .int .i64 x173001_1] 47 (0, 0)) (by (with_reducible repeat (first | refine blk_drewN ?_ _ | refine blk_drew ?_ | refine blk_alloc ?_ _)); exact BK172.out) hb); have n1_ := Aside0.mk (below_step (by repeat (first | (with_reducible first | exact HB.out | apply below_alloc | apply pw_below_drewN | apply below_drew1 | refine below_set ?_ GE172.out) | exact HB.out)) hb); clear BK172; clear HB; have BK172 := n0_; have HB := n1_; clear n0_ n1_; (try clear hb); (try clear hb2); (try clear hk); (try clear hi)))
                          go_meet
                          case rel => exact ⟨_, ((t173 != 0)), (by first | rfl | (simp; done) | (simp [*]; done)), H', ⟨by have := HK1.out; first | omega | exact Nat.le_refl _⟩, ⟨by (with_reducible repeat (first | refine blk_drewN ?_ _ | refine blk_drew ?_ | refine blk_alloc ?_ _)); exact BK172.out⟩, ⟨by repeat (first | (with_reducible first | exact HB.out | apply below_alloc | apply pw_below_drewN | apply below_drew1 | refine below_set ?_ GE172.out) | exact HB.out)⟩⟩
                        · rw [if_neg c17] at H
                          exact absurd H (by simp)
                      · rw [if_neg c15] at H
                        have c15b0 : ((bt (a0.extract (a1 : Int).toNat ((wrap64 (a1 + x7_1)) : Int).toNat) (ji11)) == 59) = false := beq_eq_false_iff_ne.mpr c15
                        have c15b1 : ((bt (a0.extract (a1 : Int).toNat ((wrap64 (a1 + x7_1)) : Int).toNat) (ji11)) != 59) = true := bne_iff_ne.mpr c15
                        have H' := Aside0.mk H
                        clear H
                        have p14 : 0 ≤ ((ji11) : Int) := of_decide_eq_true (by first | (with_reducible assumption) | assumption)
                        have q14 : (ji11) < ((a0.extract (a1 : Int).toNat ((wrap64 (a1 + x7_1)) : Int).toNat).size : Int) := of_decide_eq_true (by first | (with_reducible assumption) | assumption)
                        have hx14 := bt_at (a0.extract (a1 : Int).toNat ((wrap64 (a1 + x7_1)) : Int).toNat) (ji11)
                        replace p14 := eq_true p14
                        replace q14 := eq_true q14
                        (try simp only [ByteArray.size_extract, Nat.min_self] at q14)
                        (try rw [show min ((wrap64 (a1 + x7_1)) : Int).toNat a0.size = ((wrap64 (a1 + x7_1)) : Int).toNat by omega] at q14)
                        go_wp2
                        go_meet
                        case rel => exact ⟨_, (false), (by first | rfl | (simp; done) | (simp [*]; done)), H', ⟨by have := HK1.out; first | omega | exact Nat.le_refl _⟩, ⟨by (with_reducible repeat (first | refine blk_drewN ?_ _ | refine blk_drew ?_ | refine blk_alloc ?_ _)); exact BK172.out⟩, ⟨by repeat (first | (with_reducible first | exact HB.out | apply below_alloc | apply pw_below_drewN | apply below_drew1 | refine below_set ?_ GE172.out) | exact HB.out)⟩⟩
                    · rw [if_neg c13] at H
                      exact absurd H (by simp)
                  · rw [if_neg c12] at H
                    exact absurd H (by simp)
                case rest =>
                  clear HC10
                  try clear c1
                  try clear p1
                  try clear q1
                  try clear hx1
                  try clear p2
                  try clear c4
                  try clear c5
                  try clear c5b0
                  try clear c6
                  try clear c6b0
                  try clear p6
                  try clear c7
                  try clear c7b0
                  try clear c7b1
                  try clear c8
                  try clear c8b0
                  try clear c8b1
                  try clear c9
                  try clear c9b0
                  try clear c9b1
                  try clear c12
                  try clear c12b0
                  try clear c13
                  try clear c13b0
                  try clear p14
                  try clear q14
                  try clear hx14
                  try clear c15
                  try clear c15b0
                  try clear c15b1
                  try clear c16
                  try clear c16b0
                  try clear c17
                  try clear c17b0
                  try clear c17b1
                  try clear p14
                  try clear p2
                  try clear q14
                  obtain ⟨kq, x39_9, rfl, HA, HJ9, BK172, HB⟩ := hcut
                  cases kq with
                  | zero => exact absurd HA.out (by simp [rectoref04_named.j1])
                  | succ kj9 =>
                    have H := HA.out
                    clear HA
                    simp only [rectoref04_named.j1] at H
                    by_cases c20 : x39_9 = true
                    · subst c20
                      have H1 : (if 0 ≤ (wrap64 (x7_1 - 1)) then (if (wrap64 (x7_1 - 1)) ≤ ((a0.extract (a1 : Int).toNat ((wrap64 (a1 + x7_1)) : Int).toNat).size : Int) then ((rectoref04_Name.f kj9 ((a0.extract (a1 : Int).toNat ((wrap64 (a1 + x7_1)) : Int).toNat).extract 0 ((wrap64 (x7_1 - 1)) : Int).toNat)).bind fun t174 => ((rectoref02_Bytes.f kj9 t174).bind fun t175 => (some (t175, wrap64 (a1 + x7_1))))) else (none)) else (none)) = some (r1, r2) := by rw [if_pos rfl] at H; exact H
                      clear H
                      have H := H1
                      clear H1
                      obtain ⟨ji21, hji21⟩ : ∃ j_ : Int, (wrap64 (x7_1 - 1)) = j_ := ⟨_, rfl⟩
                      replace H : (if 0 ≤ (ji21) then (if (ji21) ≤ ((a0.extract (a1 : Int).toNat ((wrap64 (a1 + x7_1)) : Int).toNat).size : Int) then ((rectoref04_Name.f kj9 ((a0.extract (a1 : Int).toNat ((wrap64 (a1 + x7_1)) : Int).toNat).extract 0 ((ji21) : Int).toNat)).bind fun t174 => ((rectoref02_Bytes.f kj9 t174).bind fun t175 => (some (t175, wrap64 (a1 + x7_1))))) else (none)) else (none)) = some (r1, r2) := by first | (rw [hji21] at H; exact H) | (simp only [hji21] at H ⊢; exact H)
                      have hji21w : (IntKind.i64.wrap (x7_1 - 1)) = ji21 := (i64_w _).trans hji21
                      by_cases c22 : 0 ≤ (ji21)
                      · rw [if_pos c22] at H
                        have c22b0 := eq_true c22
                        have c22b1 : decide (0 ≤ (ji21)) = true := decide_eq_true c22
                        clear c22
                        by_cases c23 : (ji21) ≤ ((a0.extract (a1 : Int).toNat ((wrap64 (a1 + x7_1)) : Int).toNat).size : Int)
                        · rw [if_pos c23] at H
                          have c23b0 := eq_true c23
                          (try simp only [ByteArray.size_extract, Nat.min_self] at c23b0)
                          (try rw [show min ((wrap64 (a1 + x7_1)) : Int).toNat a0.size = ((wrap64 (a1 + x7_1)) : Int).toNat by omega] at c23b0)
                          have c23b1 : decide ((ji21) ≤ ((a0.extract (a1 : Int).toNat ((wrap64 (a1 + x7_1)) : Int).toNat).size : Int)) = true := decide_eq_true c23
                          (try simp only [ByteArray.size_extract, Nat.min_self] at c23b1)
                          (try rw [show min ((wrap64 (a1 + x7_1)) : Int).toNat a0.size = ((wrap64 (a1 + x7_1)) : Int).toNat by omega] at c23b1)
                          replace H := Option.bind_eq_some_iff.mp H
                          obtain ⟨t174, A240, H⟩ := H
                          replace H : ((rectoref02_Bytes.f kj9 t174).bind fun t175 => (some (t175, wrap64 (a1 + x7_1)))) = some (r1, r2) := H
                          have A24 := Aside0.mk A240
                          clear A240
                          replace H := Option.bind_eq_some_iff.mp H
                          obtain ⟨t175, A250, H⟩ := H
                          replace H : (some (t175, wrap64 (a1 + x7_1))) = some (r1, r2) := H
                          have A25 := Aside0.mk A250
                          clear A250
                          simp only [Option.some.injEq, Prod.mk.injEq] at H
                          obtain ⟨rfl, rfl⟩ := H
                          go_wp2_with (first | ((with_reducible refine gate_callee (f := 33) rfl ?_); refine goesL_ (some 44) rfl rfl Tryd.func33 (by kernel_rfl) rfl #[.string ((a0.extract (a1 : Int).toNat ((wrap64 (a1 + x7_1)) : Int).toNat).extract 0 ((ji21) : Int).toNat)] rfl (by (try simp only [List.map_toArray, List.map_cons, List.map_nil]); first | done | (simp only [ByteArray.size_extract, Nat.min_self]; rfl) | (simp only [hji21]; rfl) | rfl | (simp only [List.length_drop, List.length_take]; rfl)) ?_; (with_reducible refine (rectoref04_Name.calls kj9 ((a0.extract (a1 : Int).toNat ((wrap64 (a1 + x7_1)) : Int).toNat).extract 0 ((ji21) : Int).toNat) t174 _ A24.out ?side1).mono ?_); (case side1 => exact Aside0.mk (Laid.below HG.out (by repeat (first | (with_reducible first | exact HB.out | apply below_alloc | apply pw_below_drewN | apply below_drew1 | refine below_set ?_ GE172.out) | exact HB.out)))); rintro e w26 ⟨rfl, hb⟩; refine ⟨_, rfl, ?_⟩; have n0_ := Aside0.mk (blk_below (g := gb172) (o := .cells #[.string x173000_1, .int .i64 x173001_1] 47 (0, 0)) (by (with_reducible repeat (first | refine blk_drewN ?_ _ | refine blk_drew ?_ | refine blk_alloc ?_ _)); exact BK172.out) hb); have n1_ := Aside0.mk (below_step (by repeat (first | (with_reducible first | exact HB.out | apply below_alloc | apply pw_below_drewN | apply below_drew1 | refine below_set ?_ GE172.out) | exact HB.out)) hb); clear BK172; clear HB; have BK172 := n0_; have HB := n1_; clear n0_ n1_; (try clear hb); (try clear hb2); (try clear hk); (try clear hi)) | ((with_reducible refine gate_callee (f := 15) rfl ?_); refine goesL_ (some 45) rfl rfl Tryd.func15 (by kernel_rfl) rfl #[.int .i64 t174] rfl (by (try simp only [List.map_toArray, List.map_cons, List.map_nil]); first | done | rfl | (simp only [List.length_drop, List.length_take]; rfl)) ?_; (with_reducible refine (rectoref02_Bytes.calls kj9 t174 t175 _ A25.out ?side1).mono ?_); (case side1 => exact Aside0.mk (Laid.below HG.out (by repeat (first | (with_reducible first | exact HB.out | apply below_alloc | apply pw_below_drewN | apply below_drew1 | refine below_set ?_ GE172.out) | exact HB.out)))); rintro e w27 ⟨rfl, hb⟩; refine ⟨_, rfl, ?_⟩; have n0_ := Aside0.mk (blk_below (g := gb172) (o := .cells #[.string x173000_1, .int .i64 x173001_1] 47 (0, 0)) (by (with_reducible repeat (first | refine blk_drewN ?_ _ | refine blk_drew ?_ | refine blk_alloc ?_ _)); exact BK172.out) hb); have n1_ := Aside0.mk (below_step (by repeat (first | (with_reducible first | exact HB.out | apply below_alloc | apply pw_below_drewN | apply below_drew1 | refine below_set ?_ GE172.out) | exact HB.out)) hb); clear BK172; clear HB; have BK172 := n0_; have HB := n1_; clear n0_ n1_; (try clear hb); (try clear hb2); (try clear hk); (try clear hi); have hcz28_0 : w27.cell? ⟨gb172, 0, none⟩ = some (.string x173000_1) := (blk_cell BK172.out 0).trans rfl; have hcz28_1 : w27.cell? ⟨gb172, 1, none⟩ = some (.int .i64 x173001_1) := (blk_cell BK172.out 1).trans rfl; have hfz28_0 := blk_frozen BK172.out 0; have hfz28_1 := blk_frozen BK172.out 1))
                          refine bodyPost_ret (results_cell_row rfl _ _ gb172 47 #[.string t175, .int .i64 (wrap64 (a1 + x7_1))] (0, 0) _ rfl (by (with_reducible repeat (first | refine blk_drewN ?_ _ | refine blk_drew ?_ | refine blk_alloc ?_ _)); refine blk_put (cs := #[.string t175, .int .i64 x173001_1]) ?_ 1 _ (by first | rfl | (simp only [*]; done) | (simp only [*]; rfl)); (with_reducible repeat (first | refine blk_drewN ?_ _ | refine blk_drew ?_ | refine blk_alloc ?_ _)); refine blk_put (cs := #[.string x173000_1, .int .i64 x173001_1]) ?_ 0 _ (by first | rfl | (simp only [*]; done) | (simp only [*]; rfl)); (with_reducible repeat (first | refine blk_drewN ?_ _ | refine blk_drew ?_ | refine blk_alloc ?_ _)); exact BK172.out) Tryd.underlying47 rfl (by kernel_rfl)) rfl ?_
                          exact ⟨by first | rfl | (simp [errW_none, errW_some] <;> rfl) | (simp only [← hji21]; first | rfl | (simp [errW_none, errW_some] <;> rfl)) | (simp [*, errW_none, errW_some] <;> rfl), by repeat (first | (with_reducible first | exact HB.out | apply below_alloc | apply pw_below_drewN | apply below_drew1 | refine below_set ?_ GE172.out) | exact HB.out)⟩
                        · rw [if_neg c23] at H
                          exact absurd H (by simp)
                      · rw [if_neg c22] at H
                        exact absurd H (by simp)
                    · replace c20 := Bool.eq_false_iff.mpr c20
                      subst c20
                      have H1 : ((rectoref04_at.f a0 (wrap64 (a1 + x7_1))).bind fun t176 => (if a2 = true then (if t176 = 61 then (rectoref04_named.j2 kj9 a0 a1 a2 x7_1 (a0.extract (a1 : Int).toNat ((wrap64 (a1 + x7_1)) : Int).toNat) true) else ((rectoref03_Letter.f t176).bind fun t177 => (if t177 = true then (rectoref04_named.j2 kj9 a0 a1 a2 x7_1 (a0.extract (a1 : Int).toNat ((wrap64 (a1 + x7_1)) : Int).toNat) true) else ((rectoref03_Digit.f t176).bind fun t178 => (rectoref04_named.j2 kj9 a0 a1 a2 x7_1 (a0.extract (a1 : Int).toNat ((wrap64 (a1 + x7_1)) : Int).toNat) t178))))) else (rectoref04_named.j2 kj9 a0 a1 a2 x7_1 (a0.extract (a1 : Int).toNat ((wrap64 (a1 + x7_1)) : Int).toNat) false))) = some (r1, r2) := by rw [if_neg (show ¬ (false = true) by decide)] at H; exact H
                      clear H
                      have H := H1
                      clear H1
                      replace H := Option.bind_eq_some_iff.mp H
                      obtain ⟨t176, A290, H⟩ := H
                      replace H : (if a2 = true then (if t176 = 61 then (rectoref04_named.j2 kj9 a0 a1 a2 x7_1 (a0.extract (a1 : Int).toNat ((wrap64 (a1 + x7_1)) : Int).toNat) true) else ((rectoref03_Letter.f t176).bind fun t177 => (if t177 = true then (rectoref04_named.j2 kj9 a0 a1 a2 x7_1 (a0.extract (a1 : Int).toNat ((wrap64 (a1 + x7_1)) : Int).toNat) true) else ((rectoref03_Digit.f t176).bind fun t178 => (rectoref04_named.j2 kj9 a0 a1 a2 x7_1 (a0.extract (a1 : Int).toNat ((wrap64 (a1 + x7_1)) : Int).toNat) t178))))) else (rectoref04_named.j2 kj9 a0 a1 a2 x7_1 (a0.extract (a1 : Int).toNat ((wrap64 (a1 + x7_1)) : Int).toNat) false)) = some (r1, r2) := H
                      have A29 := Aside0.mk A290
                      clear A290
                      have HC30 := Aside0.mk H
                      clear H
                      go_upto_region 9 with (first | ((with_reducible refine gate_callee (f := 48) rfl ?_); refine goesL_ (some 54) rfl rfl Tryd.func48 (by kernel_rfl) rfl #[.string a0, .int .i64 (wrap64 (a1 + x7_1))] rfl (by (try simp only [List.map_toArray, List.map_cons, List.map_nil]); first | done | rfl | (simp only [List.length_drop, List.length_take]; rfl)) ?_; (with_reducible refine (rectoref04_at.calls a0 (wrap64 (a1 + x7_1)) t176 _ A29.out ?side1).mono ?_); (case side1 => exact Aside0.mk (Laid.below HG.out (by repeat (first | (with_reducible first | exact HB.out | apply below_alloc | apply pw_below_drewN | apply below_drew1 | refine below_set ?_ GE172.out) | exact HB.out)))); rintro e w' ⟨rfl, ⟨nd, rfl⟩⟩; refine ⟨_, rfl, ?_⟩))
                      (try simp only [Act.put, List.setIfInBounds_toArray, List.set_cons_zero, List.set_cons_succ])
                      go_cut [10] (fun v10 wc => ∃ (kq : Nat) (x10_29 : Bool), v10 = .bool x10_29 ∧ Aside0 (rectoref04_named.j2 kq a0 a1 a2 x7_1 (a0.extract (a1 : Int).toNat ((wrap64 (a1 + x7_1)) : Int).toNat) x10_29 = some (r1, r2)) ∧ Aside0 (kq ≤ kj9) ∧ Aside0 (wc.heap[gb172]? = some (.cells #[.string x173000_1, .int .i64 x173001_1] 47 (0, 0))) ∧ Aside0 (Below w.heap.size w wc))
                      case first =>
                        have H := HC30.out
                        clear HC30
                        by_cases c31 : a2 = true
                        · subst c31
                          have H1 : (if t176 = 61 then (rectoref04_named.j2 kj9 a0 a1 true x7_1 (a0.extract (a1 : Int).toNat ((wrap64 (a1 + x7_1)) : Int).toNat) true) else ((rectoref03_Letter.f t176).bind fun t177 => (if t177 = true then (rectoref04_named.j2 kj9 a0 a1 true x7_1 (a0.extract (a1 : Int).toNat ((wrap64 (a1 + x7_1)) : Int).toNat) true) else ((rectoref03_Digit.f t176).bind fun t178 => (rectoref04_named.j2 kj9 a0 a1 true x7_1 (a0.extract (a1 : Int).toNat ((wrap64 (a1 + x7_1)) : Int).toNat) t178))))) = some (r1, r2) := by rw [if_pos rfl] at H; exact H
                          clear H
                          have H := H1
                          clear H1
                          by_cases c32 : t176 = 61
                          · rw [if_pos c32] at H
                            have c32b0 : (t176 == 61) = true := beq_iff_eq.mpr c32
                            have c32b1 : (t176 != 61) = false := bne_eq_false_iff_eq.mpr c32
                            clear c32
                            (first | rw [c32b0] | (simp only [i64_w, i32_w]; rw [c32b0]) | skip)
                            have H' := Aside0.mk H
                            clear H
                            go_wp2
                            go_meet
                            case rel => exact ⟨_, (true), (by first | rfl | (simp; done) | (simp [*]; done)), H', ⟨by have := HK1.out; have := HJ9.out; first | omega | exact Nat.le_refl _⟩, ⟨by (with_reducible repeat (first | refine blk_drewN ?_ _ | refine blk_drew ?_ | refine blk_alloc ?_ _)); exact BK172.out⟩, ⟨by repeat (first | (with_reducible first | exact HB.out | apply below_alloc | apply pw_below_drewN | apply below_drew1 | refine below_set ?_ GE172.out) | exact HB.out)⟩⟩
                          · rw [if_neg c32] at H
                            have c32b0 : (t176 == 61) = false := beq_eq_false_iff_ne.mpr c32
                            have c32b1 : (t176 != 61) = true := bne_iff_ne.mpr c32
                            (first | rw [c32b0] | (simp only [i64_w, i32_w]; rw [c32b0]) | skip)
                            replace H := Option.bind_eq_some_iff.mp H
                            obtain ⟨t177, A330, H⟩ := H
                            replace H : (if t177 = true then (rectoref04_named.j2 kj9 a0 a1 true x7_1 (a0.extract (a1 : Int).toNat ((wrap64 (a1 + x7_1)) : Int).toNat) true) else ((rectoref03_Digit.f t176).bind fun t178 => (rectoref04_named.j2 kj9 a0 a1 true x7_1 (a0.extract (a1 : Int).toNat ((wrap64 (a1 + x7_1)) : Int).toNat) t178))) = some (r1, r2) := H
                            have A33 := Aside0.mk A330
                            clear A330
                            by_cases c34 : t177 = true
                            · subst c34
                              have H1 : (rectoref04_named.j2 kj9 a0 a1 true x7_1 (a0.extract (a1 : Int).toNat ((wrap64 (a1 + x7_1)) : Int).toNat) true) = some (r1, r2) := by rw [if_pos rfl] at H; exact H
                              clear H
                              have H := H1
                              clear H1
                              have H' := Aside0.mk H
                              clear H
                              go_wp2_with (first | (go_at_call 60; (with_reducible refine (rectoref03_Letter.calls t176 true _ A33.out ?side1).mono ?_); (case side1 => exact Aside0.mk (Laid.below HG.out (by repeat (first | (with_reducible first | exact HB.out | apply below_alloc | apply pw_below_drewN | apply below_drew1 | refine below_set ?_ GE172.out) | exact HB.out)))); rintro e w' ⟨rfl, ⟨nd, rfl⟩⟩))
                              go_meet
                              case rel => exact ⟨_, (true), (by first | rfl | (simp; done) | (simp [*]; done)), H', ⟨by have := HK1.out; have := HJ9.out; first | omega | exact Nat.le_refl _⟩, ⟨by (with_reducible repeat (first | refine blk_drewN ?_ _ | refine blk_drew ?_ | refine blk_alloc ?_ _)); exact BK172.out⟩, ⟨by repeat (first | (with_reducible first | exact HB.out | apply below_alloc | apply pw_below_drewN | apply below_drew1 | refine below_set ?_ GE172.out) | exact HB.out)⟩⟩
                            · replace c34 := Bool.eq_false_iff.mpr c34
                              subst c34
                              have H1 : ((rectoref03_Digit.f t176).bind fun t178 => (rectoref04_named.j2 kj9 a0 a1 true x7_1 (a0.extract (a1 : Int).toNat ((wrap64 (a1 + x7_1)) : Int).toNat) t178)) = some (r1, r2) := by rw [if_neg (show ¬ (false = true) by decide)] at H; exact H
                              clear H
                              have H := H1
                              clear H1
                              replace H := Option.bind_eq_some_iff.mp H
                              obtain ⟨t178, A350, H⟩ := H
                              replace H : (rectoref04_named.j2 kj9 a0 a1 true x7_1 (a0.extract (a1 : Int).toNat ((wrap64 (a1 + x7_1)) : Int).toNat) t178) = some (r1, r2) := H
                              have A35 := Aside0.mk A350
                              clear A350
                              have H' := Aside0.mk H
                              clear H
                              go_wp2_with (first | (go_at_call 60; (with_reducible refine (rectoref03_Letter.calls t176 false _ A33.out ?side1).mono ?_); (case side1 => exact Aside0.mk (Laid.below HG.out (by repeat (first | (with_reducible first | exact HB.out | apply below_alloc | apply pw_below_drewN | apply below_drew1 | refine below_set ?_ GE172.out) | exact HB.out)))); rintro e w' ⟨rfl, ⟨nd, rfl⟩⟩) | (go_at_call 61; (with_reducible refine (rectoref03_Digit.calls t176 t178 _ A35.out ?side1).mono ?_); (case side1 => exact Aside0.mk (Laid.below HG.out (by repeat (first | (with_reducible first | exact HB.out | apply below_alloc | apply pw_below_drewN | apply below_drew1 | refine below_set ?_ GE172.out) | exact HB.out)))); rintro e w' ⟨rfl, ⟨nd, rfl⟩⟩))
                              go_meet
                              case rel => exact ⟨_, (t178), (by first | rfl | (simp; done) | (simp [*]; done)), H', ⟨by have := HK1.out; have := HJ9.out; first | omega | exact Nat.le_refl _⟩, ⟨by (with_reducible repeat (first | refine blk_drewN ?_ _ | refine blk_drew ?_ | refine blk_alloc ?_ _)); exact BK172.out⟩, ⟨by repeat (first | (with_reducible first | exact HB.out | apply below_alloc | apply pw_below_drewN | apply below_drew1 | refine below_set ?_ GE172.out) | exact HB.out)⟩⟩
                        · replace c31 := Bool.eq_false_iff.mpr c31
                          subst c31
                          have H1 : (rectoref04_named.j2 kj9 a0 a1 false x7_1 (a0.extract (a1 : Int).toNat ((wrap64 (a1 + x7_1)) : Int).toNat) false) = some (r1, r2) := by rw [if_neg (show ¬ (false = true) by decide)] at H; exact H
                          clear H
                          have H := H1
                          clear H1
                          have H' := Aside0.mk H
                          clear H
                          go_wp2
                          go_meet
                          case rel => exact ⟨_, (false), (by first | rfl | (simp; done) | (simp [*]; done)), H', ⟨by have := HK1.out; have := HJ9.out; first | omega | exact Nat.le_refl _⟩, ⟨by (with_reducible repeat (first | refine blk_drewN ?_ _ | refine blk_drew ?_ | refine blk_alloc ?_ _)); exact BK172.out⟩, ⟨by repeat (first | (with_reducible first | exact HB.out | apply below_alloc | apply pw_below_drewN | apply below_drew1 | refine below_set ?_ GE172.out) | exact HB.out)⟩⟩
                      case rest =>
                        clear HC30
                        try clear c1
                        try clear p1
                        try clear q1
                        try clear hx1
                        try clear c2
                        try clear p2
                        try clear c3
                        try clear c4
                        try clear c5
                        try clear c5b0
                        try clear c6
                        try clear c6b0
                        try clear p6
                        try clear c7
                        try clear c7b0
                        try clear c7b1
                        try clear c8
                        try clear c8b0
                        try clear c8b1
                        try clear c9
                        try clear c9b0
                        try clear c9b1
                        try clear c12
                        try clear c12b0
                        try clear c13
                        try clear c13b0
                        try clear p14
                        try clear q14
                        try clear hx14
                        try clear c15
                        try clear c15b0
                        try clear c15b1
                        try clear c16
                        try clear c16b0
                        try clear c17
                        try clear c17b0
                        try clear c17b1
                        try clear c20
                        try clear c22
                        try clear c22b0
                        try clear c22b1
                        try clear c23
                        try clear c23b0
                        try clear c23b1
                        try clear c31
                        try clear c32
                        try clear c32b0
                        try clear c32b1
                        try clear c33
                        try clear c34
                        try clear hcz28_0
                        try clear hcz28_1
                        try clear hfz28_0
                        try clear hfz28_1
                        try clear p1
                        try clear p14
                        try clear p2
                        try clear p6
                        try clear q1
                        try clear q14
                        obtain ⟨kq, x10_29, rfl, HA, HJ29, BK172, HB⟩ := hcut
                        cases kq with
                        | zero => exact absurd HA.out (by simp [rectoref04_named.j2])
                        | succ kj29 =>
                          have H := HA.out
                          clear HA
                          simp only [rectoref04_named.j2] at H
                          have HC36 := Aside0.mk H
                          clear H
                          go_upto_region 10 with (fail)
                          go_cut [73] (fun v73 wc => ∃ (kq : Nat) (x73_35 : Bool), v73 = .bool x73_35 ∧ Aside0 (rectoref04_named.j3 kq a0 a1 a2 x7_1 (a0.extract (a1 : Int).toNat ((wrap64 (a1 + x7_1)) : Int).toNat) x73_35 = some (r1, r2)) ∧ Aside0 (kq ≤ kj29) ∧ Aside0 (wc.heap[gb172]? = some (.cells #[.string x173000_1, .int .i64 x173001_1] 47 (0, 0))) ∧ Aside0 (Below w.heap.size w wc))
                          case first =>
                            have H := HC36.out
                            clear HC36
                            replace H := Option.bind_eq_some_iff.mp H
                            obtain ⟨t179, A370, H⟩ := H
                            replace H : (if t179 = true then (rectoref04_named.j3 kj29 a0 a1 a2 x7_1 (a0.extract (a1 : Int).toNat ((wrap64 (a1 + x7_1)) : Int).toNat) (!x10_29)) else (rectoref04_named.j3 kj29 a0 a1 a2 x7_1 (a0.extract (a1 : Int).toNat ((wrap64 (a1 + x7_1)) : Int).toNat) false)) = some (r1, r2) := H
                            have A37 := Aside0.mk A370
                            clear A370
                            by_cases c38 : t179 = true
                            · subst c38
                              have H1 : (rectoref04_named.j3 kj29 a0 a1 a2 x7_1 (a0.extract (a1 : Int).toNat ((wrap64 (a1 + x7_1)) : Int).toNat) (!x10_29)) = some (r1, r2) := by rw [if_pos rfl] at H; exact H
                              clear H
                              have H := H1
                              clear H1
                              have H' := Aside0.mk H
                              clear H
                              go_wp2_with (first | ((with_reducible refine gate_callee (f := 62) rfl ?_); refine goesL_ (some 69) rfl rfl Tryd.func62 (by kernel_rfl) rfl #[.string (a0.extract (a1 : Int).toNat ((wrap64 (a1 + x7_1)) : Int).toNat)] rfl (by (try simp only [List.map_toArray, List.map_cons, List.map_nil]); first | done | rfl | (simp only [List.length_drop, List.length_take]; rfl)) ?_; (with_reducible refine (rectoref04_Loose.calls kj29 (a0.extract (a1 : Int).toNat ((wrap64 (a1 + x7_1)) : Int).toNat) true _ A37.out ?side1).mono ?_); (case side1 => exact Aside0.mk (Laid.below HG.out (by repeat (first | (with_reducible first | exact HB.out | apply below_alloc | apply pw_below_drewN | apply below_drew1 | refine below_set ?_ GE172.out) | exact HB.out)))); rintro e w39 ⟨rfl, hb⟩; refine ⟨_, rfl, ?_⟩; have n0_ := Aside0.mk (blk_below (g := gb172) (o := .cells #[.string x173000_1, .int .i64 x173001_1] 47 (0, 0)) (by (with_reducible repeat (first | refine blk_drewN ?_ _ | refine blk_drew ?_ | refine blk_alloc ?_ _)); exact BK172.out) hb); have n1_ := Aside0.mk (below_step (by repeat (first | (with_reducible first | exact HB.out | apply below_alloc | apply pw_below_drewN | apply below_drew1 | refine below_set ?_ GE172.out) | exact HB.out)) hb); clear BK172; clear HB; have BK172 := n0_; have HB := n1_; clear n0_ n1_; (try clear hb); (try clear hb2); (try clear hk); (try clear hi)))
                              go_meet
                              case rel => exact ⟨_, (!x10_29), (by first | rfl | (simp; done) | (simp [*]; done)), H', ⟨by have := HK1.out; have := HJ9.out; have := HJ29.out; first | omega | exact Nat.le_refl _⟩, ⟨by (with_reducible repeat (first | refine blk_drewN ?_ _ | refine blk_drew ?_ | refine blk_alloc ?_ _)); exact BK172.out⟩, ⟨by repeat (first | (with_reducible first | exact HB.out | apply below_alloc | apply pw_below_drewN | apply below_drew1 | refine below_set ?_ GE172.out) | exact HB.out)⟩⟩
                            · replace c38 := Bool.eq_false_iff.mpr c38
                              subst c38
                              have H1 : (rectoref04_named.j3 kj29 a0 a1 a2 x7_1 (a0.extract (a1 : Int).toNat ((wrap64 (a1 + x7_1)) : Int).toNat) false) = some (r1, r2) := by rw [if_neg (show ¬ (false = true) by decide)] at H; exact H
                              clear H
                              have H := H1
                              clear H1
                              have H' := Aside0.mk H
                              clear H
                              go_wp2_with (first | ((with_reducible refine gate_callee (f := 62) rfl ?_); refine goesL_ (some 69) rfl rfl Tryd.func62 (by kernel_rfl) rfl #[.string (a0.extract (a1 : Int).toNat ((wrap64 (a1 + x7_1)) : Int).toNat)] rfl (by (try simp only [List.map_toArray, List.map_cons, List.map_nil]); first | done | rfl | (simp only [List.length_drop, List.length_take]; rfl)) ?_; (with_reducible refine (rectoref04_Loose.calls kj29 (a0.extract (a1 : Int).toNat ((wrap64 (a1 + x7_1)) : Int).toNat) false _ A37.out ?side1).mono ?_); (case side1 => exact Aside0.mk (Laid.below HG.out (by repeat (first | (with_reducible first | exact HB.out | apply below_alloc | apply pw_below_drewN | apply below_drew1 | refine below_set ?_ GE172.out) | exact HB.out)))); rintro e w40 ⟨rfl, hb⟩; refine ⟨_, rfl, ?_⟩; have n0_ := Aside0.mk (blk_below (g := gb172) (o := .cells #[.string x173000_1, .int .i64 x173001_1] 47 (0, 0)) (by (with_reducible repeat (first | refine blk_drewN ?_ _ | refine blk_drew ?_ | refine blk_alloc ?_ _)); exact BK172.out) hb); have n1_ := Aside0.mk (below_step (by repeat (first | (with_reducible first | exact HB.out | apply below_alloc | apply pw_below_drewN | apply below_drew1 | refine below_set ?_ GE172.out) | exact HB.out)) hb); clear BK172; clear HB; have BK172 := n0_; have HB := n1_; clear n0_ n1_; (try clear hb); (try clear hb2); (try clear hk); (try clear hi)))
                              go_meet
                              case rel => exact ⟨_, (false), (by first | rfl | (simp; done) | (simp [*]; done)), H', ⟨by have := HK1.out; have := HJ9.out; have := HJ29.out; first | omega | exact Nat.le_refl _⟩, ⟨by (with_reducible repeat (first | refine blk_drewN ?_ _ | refine blk_drew ?_ | refine blk_alloc ?_ _)); exact BK172.out⟩, ⟨by repeat (first | (with_reducible first | exact HB.out | apply below_alloc | apply pw_below_drewN | apply below_drew1 | refine below_set ?_ GE172.out) | exact HB.out)⟩⟩
                          case rest =>
                            clear HC36
                            try clear c1
                            try clear p1
                            try clear q1
                            try clear hx1
                            try clear c2
                            try clear p2
                            try clear c3
                            try clear c4
                            try clear c5
                            try clear c5b0
                            try clear c6
                            try clear c6b0
                            try clear p6
                            try clear c7
                            try clear c7b0
                            try clear c7b1
                            try clear c8
                            try clear c8b0
                            try clear c8b1
                            try clear c9
                            try clear c9b0
                            try clear c9b1
                            try clear c12
                            try clear c12b0
                            try clear c13
                            try clear c13b0
                            try clear p14
                            try clear q14
                            try clear hx14
                            try clear c15
                            try clear c15b0
                            try clear c15b1
                            try clear c16
                            try clear c16b0
                            try clear c17
                            try clear c17b0
                            try clear c17b1
                            try clear c20
                            try clear c22
                            try clear c22b0
                            try clear c22b1
                            try clear c23
                            try clear c23b0
                            try clear c23b1
                            try clear c31
                            try clear c32
                            try clear c32b0
                            try clear c32b1
                            try clear c33
                            try clear c34
                            try clear c38
                            try clear hcz28_0
                            try clear hcz28_1
                            try clear hfz28_0
                            try clear hfz28_1
                            try clear p1
                            try clear p14
                            try clear p2
                            try clear p6
                            try clear q1
                            try clear q14
                            obtain ⟨kq, x73_35, rfl, HA, HJ35, BK172, HB⟩ := hcut
                            cases kq with
                            | zero => exact absurd HA.out (by simp [rectoref04_named.j3])
                            | succ kj35 =>
                              have H := HA.out
                              clear HA
                              simp only [rectoref04_named.j3] at H
                              by_cases c41 : x73_35 = true
                              · subst c41
                                have H1 : ((rectoref04_Name.f kj35 (a0.extract (a1 : Int).toNat ((wrap64 (a1 + x7_1)) : Int).toNat)).bind fun t180 => ((rectoref02_Bytes.f kj35 t180).bind fun t181 => (some (t181, wrap64 (a1 + x7_1))))) = some (r1, r2) := by rw [if_pos rfl] at H; exact H
                                clear H
                                have H := H1
                                clear H1
                                replace H := Option.bind_eq_some_iff.mp H
                                obtain ⟨t180, A420, H⟩ := H
                                replace H : ((rectoref02_Bytes.f kj35 t180).bind fun t181 => (some (t181, wrap64 (a1 + x7_1)))) = some (r1, r2) := H
                                have A42 := Aside0.mk A420
                                clear A420
                                replace H := Option.bind_eq_some_iff.mp H
                                obtain ⟨t181, A430, H⟩ := H
                                replace H : (some (t181, wrap64 (a1 + x7_1))) = some (r1, r2) := H
                                have A43 := Aside0.mk A430
                                clear A430
                                simp only [Option.some.injEq, Prod.mk.injEq] at H
                                obtain ⟨rfl, rfl⟩ := H
                                go_wp2_with (first | ((with_reducible refine gate_callee (f := 33) rfl ?_); refine goesL_ (some 75) rfl rfl Tryd.func33 (by kernel_rfl) rfl #[.string (a0.extract (a1 : Int).toNat ((wrap64 (a1 + x7_1)) : Int).toNat)] rfl (by (try simp only [List.map_toArray, List.map_cons, List.map_nil]); first | done | rfl | (simp only [List.length_drop, List.length_take]; rfl)) ?_; (with_reducible refine (rectoref04_Name.calls kj35 (a0.extract (a1 : Int).toNat ((wrap64 (a1 + x7_1)) : Int).toNat) t180 _ A42.out ?side1).mono ?_); (case side1 => exact Aside0.mk (Laid.below HG.out (by repeat (first | (with_reducible first | exact HB.out | apply below_alloc | apply pw_below_drewN | apply below_drew1 | refine below_set ?_ GE172.out) | exact HB.out)))); rintro e w44 ⟨rfl, hb⟩; refine ⟨_, rfl, ?_⟩; have n0_ := Aside0.mk (blk_below (g := gb172) (o := .cells #[.string x173000_1, .int .i64 x173001_1] 47 (0, 0)) (by (with_reducible repeat (first | refine blk_drewN ?_ _ | refine blk_drew ?_ | refine blk_alloc ?_ _)); exact BK172.out) hb); have n1_ := Aside0.mk (below_step (by repeat (first | (with_reducible first | exact HB.out | apply below_alloc | apply pw_below_drewN | apply below_drew1 | refine below_set ?_ GE172.out) | exact HB.out)) hb); clear BK172; clear HB; have BK172 := n0_; have HB := n1_; clear n0_ n1_; (try clear hb); (try clear hb2); (try clear hk); (try clear hi)) | ((with_reducible refine gate_callee (f := 15) rfl ?_); refine goesL_ (some 76) rfl rfl Tryd.func15 (by kernel_rfl) rfl #[.int .i64 t180] rfl (by (try simp only [List.map_toArray, List.map_cons, List.map_nil]); first | done | rfl | (simp only [List.length_drop, List.length_take]; rfl)) ?_; (with_reducible refine (rectoref02_Bytes.calls kj35 t180 t181 _ A43.out ?side1).mono ?_); (case side1 => exact Aside0.mk (Laid.below HG.out (by repeat (first | (with_reducible first | exact HB.out | apply below_alloc | apply pw_below_drewN | apply below_drew1 | refine below_set ?_ GE172.out) | exact HB.out)))); rintro e w45 ⟨rfl, hb⟩; refine ⟨_, rfl, ?_⟩; have n0_ := Aside0.mk (blk_below (g := gb172) (o := .cells #[.string x173000_1, .int .i64 x173001_1] 47 (0, 0)) (by (with_reducible repeat (first | refine blk_drewN ?_ _ | refine blk_drew ?_ | refine blk_alloc ?_ _)); exact BK172.out) hb); have n1_ := Aside0.mk (below_step (by repeat (first | (with_reducible first | exact HB.out | apply below_alloc | apply pw_below_drewN | apply below_drew1 | refine below_set ?_ GE172.out) | exact HB.out)) hb); clear BK172; clear HB; have BK172 := n0_; have HB := n1_; clear n0_ n1_; (try clear hb); (try clear hb2); (try clear hk); (try clear hi); have hcz46_0 : w45.cell? ⟨gb172, 0, none⟩ = some (.string x173000_1) := (blk_cell BK172.out 0).trans rfl; have hcz46_1 : w45.cell? ⟨gb172, 1, none⟩ = some (.int .i64 x173001_1) := (blk_cell BK172.out 1).trans rfl; have hfz46_0 := blk_frozen BK172.out 0; have hfz46_1 := blk_frozen BK172.out 1))
                                refine bodyPost_ret (results_cell_row rfl _ _ gb172 47 #[.string t181, .int .i64 (wrap64 (a1 + x7_1))] (0, 0) _ rfl (by (with_reducible repeat (first | refine blk_drewN ?_ _ | refine blk_drew ?_ | refine blk_alloc ?_ _)); refine blk_put (cs := #[.string t181, .int .i64 x173001_1]) ?_ 1 _ (by first | rfl | (simp only [*]; done) | (simp only [*]; rfl)); (with_reducible repeat (first | refine blk_drewN ?_ _ | refine blk_drew ?_ | refine blk_alloc ?_ _)); refine blk_put (cs := #[.string x173000_1, .int .i64 x173001_1]) ?_ 0 _ (by first | rfl | (simp only [*]; done) | (simp only [*]; rfl)); (with_reducible repeat (first | refine blk_drewN ?_ _ | refine blk_drew ?_ | refine blk_alloc ?_ _)); exact BK172.out) Tryd.underlying47 rfl (by kernel_rfl)) rfl ?_
                                exact ⟨by first | rfl | (simp [errW_none, errW_some] <;> rfl) | (simp [*, errW_none, errW_some] <;> rfl), by repeat (first | (with_reducible first | exact HB.out | apply below_alloc | apply pw_below_drewN | apply below_drew1 | refine below_set ?_ GE172.out) | exact HB.out)⟩
                              · replace c41 := Bool.eq_false_iff.mpr c41
                                subst c41
                                have H1 : (rectoref04_named.l0 kj35 a0 a1 a2 (wrap64 (x7_1 - 1))) = some (r1, r2) := by rw [if_neg (show ¬ (false = true) by decide)] at H; exact H
                                clear H
                                have H := H1
                                clear H1
                                have H' := Aside0.mk H
                                clear H
                                go_wp2
                                go_roundg kj35
                                case measure => have := HK1.out; have := HJ9.out; have := HJ29.out; have := HJ35.out; omega
                                case rel => exact ⟨(wrap64 (x7_1 - 1)), (x173000_1), (x173001_1), (by first | rfl | (simp; done) | (simp [*]; done)), H', ⟨by have := HK1.out; have := HJ9.out; have := HJ29.out; have := HJ35.out; omega⟩, ⟨by (with_reducible repeat (first | refine blk_drewN ?_ _ | refine blk_drew ?_ | refine blk_alloc ?_ _)); exact BK172.out⟩, ⟨by repeat (first | (with_reducible first | exact HB.out | apply below_alloc | apply pw_below_drewN | apply below_drew1 | refine below_set ?_ GE172.out) | exact HB.out)⟩⟩
              · rw [if_neg c9] at H
                exact absurd H (by simp)
            · rw [if_neg c8] at H
              exact absurd H (by simp)
          · rw [if_neg c7] at H
            exact absurd H (by simp)
      · rw [if_neg c5] at H
        have c5b0 : decide (0 < x7_1) = false := decide_eq_false c5
        clear c5
        simp only [Option.some.injEq, Prod.mk.injEq] at H
        obtain ⟨rfl, rfl⟩ := H
        have hcz47_0 : wr.cell? ⟨gb172, 0, none⟩ = some (.string x173000_1) := (blk_cell BK172.out 0).trans rfl
        have hcz47_1 : wr.cell? ⟨gb172, 1, none⟩ = some (.int .i64 x173001_1) := (blk_cell BK172.out 1).trans rfl
        have hfz47_0 := blk_frozen BK172.out 0
        have hfz47_1 := blk_frozen BK172.out 1
        go_wp2
        refine bodyPost_ret (results_cell_row rfl _ _ gb172 47 #[.string (⟨#[]⟩ : ByteArray), .int .i64 (-1)] (0, 0) _ rfl (by (with_reducible repeat (first | refine blk_drewN ?_ _ | refine blk_drew ?_ | refine blk_alloc ?_ _)); refine blk_put (cs := #[.string (⟨#[]⟩ : ByteArray), .int .i64 x173001_1]) ?_ 1 _ (by first | rfl | (simp only [*]; done) | (simp only [*]; rfl)); (with_reducible repeat (first | refine blk_drewN ?_ _ | refine blk_drew ?_ | refine blk_alloc ?_ _)); refine blk_put (cs := #[.string x173000_1, .int .i64 x173001_1]) ?_ 0 _ (by first | rfl | (simp only [*]; done) | (simp only [*]; rfl)); (with_reducible repeat (first | refine blk_drewN ?_ _ | refine blk_drew ?_ | refine blk_alloc ?_ _)); exact BK172.out) Tryd.underlying47 rfl (by kernel_rfl)) rfl ?_
        exact ⟨by first | rfl | (simp [errW_none, errW_some] <;> rfl) | (simp [*, errW_none, errW_some] <;> rfl), by repeat (first | (with_reducible first | exact HB.out | apply below_alloc | apply pw_below_drewN | apply below_drew1 | refine below_set ?_ GE172.out) | exact HB.out)⟩

end Go.Proofs.YtenbdffgnbibeaaDoor.R
