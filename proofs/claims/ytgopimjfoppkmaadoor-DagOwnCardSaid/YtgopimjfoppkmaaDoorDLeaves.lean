/- slices.Reverse, slices.IndexFunc and slices.DeleteFunc over ints, dag.Leaves with its two function literals, walked by hand: what they answer. -/
import Derived.Test.YtgopimjfoppkmaaDoorDHist
import Derived.Test.YtgopimjfoppkmaaDoorDKnown
import Derived.Shelf.RegionOpenPlain
import Derived.Lib.SliceRun
import Derived.Laws.IdiomCopy
import Derived.Test.YtgopimjfoppkmaaDoorD1
namespace Go.Proofs.YtgopimjfoppkmaaDoor.D
open Go.RowKit Go.Shelf Go.Proofs.YtgopimjfoppkmaaDoorW.PrintWords Go.Proofs.YtgopimjfoppkmaaDoorW.PrintLast

theorem KB.of_below {n₀ Bg : Nat} {W W' : World} (h : Below W.heap.size W W') (hn : n₀ ≤ W.heap.size) (hB : Bg < W.heap.size) : KB n₀ Bg W W' := ⟨h.mono hn, h.block Bg hB⟩
theorem KB.set {n₀ Bg g : Nat} (W : World) (hg : n₀ ≤ g) (hne : Bg ≠ g) (i : Nat) (u : Value) : KB n₀ Bg W (W.setCell ⟨g, i, none⟩ u) := ⟨(Below.refl n₀ W).setCell (p := ⟨g, i, none⟩) hg u, Below.heap_setCell W ⟨g, i, none⟩ u Bg hne⟩
theorem KB.drew {n₀ Bg : Nat} (W : World) : KB n₀ Bg W W.drew := ⟨below_drew (Below.refl _ _), rfl⟩
/-! #### slices.Reverse -/
/-- Of xs the places ahead of i and behind n - 1 - i have changed about. -/
def Rvd (xs ys : List Int) (i : Nat) : Prop := ys.length = xs.length ∧ ∀ k, k < xs.length → ys.getD k 0 = if k < i ∨ xs.length - 1 - i < k then xs.getD (xs.length - 1 - k) 0 else xs.getD k 0
theorem Rvd.start (xs : List Int) : Rvd xs xs 0 := ⟨rfl, fun k hk => by rw [if_neg (by omega)]⟩
theorem getD_set (l : List Int) (i k : Nat) (v : Int) (hi : i < l.length) : (l.set i v).getD k 0 = if k = i then v else l.getD k 0 := by
  rw [List.getD_eq_getElem?_getD, List.getD_eq_getElem?_getD, List.getElem?_set]
  by_cases h : i = k
  · subst h
    rw [if_pos rfl, if_pos rfl, if_pos hi]; rfl
  · rw [if_neg h, if_neg (fun e => h e.symm)]
theorem Rvd.step {xs ys : List Int} {i : Nat} (h : Rvd xs ys i) (hi : i < xs.length - 1 - i) : Rvd xs ((ys.set i (ys.getD (xs.length - 1 - i) 0)).set (xs.length - 1 - i) (ys.getD i 0)) (i + 1) := by
  obtain ⟨hl, hk⟩ := h
  refine ⟨by simp [hl], fun k hkl => ?_⟩
  rw [getD_set _ _ _ _ (by rw [List.length_set]; omega), getD_set _ _ _ _ (by omega)]
  have h1 := hk i (by omega)
  have h2 := hk (xs.length - 1 - i) (by omega)
  rw [if_neg (by omega)] at h1 h2
  by_cases a : k = xs.length - 1 - i
  · subst a
    rw [if_pos rfl, if_pos (by omega), h1]
    congr 1; omega
  · rw [if_neg a]
    by_cases b : k = i
    · subst b
      rw [if_pos rfl, if_pos (by omega), h2]
    · rw [if_neg b, hk k hkl]
      by_cases c : k < i ∨ xs.length - 1 - i < k
      · rw [if_pos c, if_pos (by omega)]
      · rw [if_neg c, if_neg (by omega)]
theorem Rvd.done {xs ys : List Int} {i : Nat} (h : Rvd xs ys i) (hi : ¬ i < xs.length - 1 - i) : ys = xs.reverse := by
  obtain ⟨hl, hk⟩ := h
  apply List.ext_getElem (by simp [hl])
  intro k h1 h2
  have hkx : k < xs.length := by omega
  have := hk k hkx
  rw [List.getElem_reverse]
  rw [List.getD_eq_getElem?_getD, List.getElem?_eq_getElem h1, List.getD_eq_getElem?_getD, List.getElem?_eq_getElem (show xs.length - 1 - k < xs.length by omega), List.getD_eq_getElem?_getD, List.getElem?_eq_getElem hkx] at this
  simp only [Option.getD_some] at this
  rw [this]
  split
  · rfl
  · have e : xs.length - 1 - k = k := by omega
    simp only [e]
set_option maxHeartbeats 4000000 in
set_option maxRecDepth 1000000 in
theorem revI (base Bg t : Nat) (v : Value) (A : Option Addr) (c : Nat) (xs : List Int) (w : World) (hR : Kd.R (Kd.int .i64) 3 w base (fun _ => True) (.slice A xs.length c) xs) (hB : Boxed w Bg t v) (ht : t ≠ 3) :
    Calls Tryd.prog 25 #[.slice A xs.length c] w fun e w' => e = .returned (.tuple #[]) ∧ Kd.R (Kd.int .i64) 3 w' base (fun _ => True) (.slice A xs.length c) xs.reverse ∧ KB base Bg w w' := by
  have hbig := (Kd.R_reads' hR).2.2.2.1
  have HR := Aside0.mk hR
  clear hR
  go_enter Tryd.func25, Tryd.ntmps25
  go_wp2
  go_loopg [2, 3] xs.length (fun gg s2 s3 wr => ∃ (i : Nat) (ys : List Int), i ≤ xs.length ∧ xs.length - i ≤ gg ∧ s2 = .int .i64 i ∧ s3 = .int .i64 ((xs.length : Int) - 1 - i) ∧ Aside0 (Rvd xs ys i) ∧ Aside0 (Kd.R (Kd.int .i64) 3 wr base (fun _ => True) (.slice A xs.length c) ys) ∧ Aside0 (KB base Bg w wr))
  case atStart => exact ⟨0, xs, by omega, by omega, rfl, congrArg (Value.int .i64) (by omega), ⟨Rvd.start xs⟩, HR, ⟨KB.refl _ _ _⟩⟩
  case round =>
    obtain ⟨i, ys, hil, hg, rfl, rfl, HV, HO, HK⟩ := hrel
    by_cases hlt : (i : Int) < (xs.length : Int) - 1 - i
    · have hyl := HV.out.1
      obtain ⟨g, cap, e1, hbg, hgl, hty⟩ := Kd.R_form (by rw [← hyl] at HO; exact HO.out) (by omega)
      cases e1
      have hstep := HV.out.step (by omega)
      obtain ⟨jn, hjn⟩ : ∃ jn, xs.length - 1 - i = jn := ⟨_, rfl⟩
      rw [hjn] at hstep
      have ej : (xs.length : Int) - 1 - i = (jn : Int) := by omega
      rw [ej]
      have hij : i < jn := by omega
      have hjl : jn < xs.length := by omega
      obtain ⟨ci, fi⟩ := Kd.R_celln 0 HO.out (i : Int) (by omega) (by omega)
      obtain ⟨cj, fj⟩ := Kd.R_celln 0 HO.out (jn : Int) (by omega) (by omega)
      unfold rdOf at ci cj
      simp only [Int.toNat_natCast] at ci fi cj fj
      have hp1 := Kd.R_putn HO.out (i : Int) (ys.getD jn 0)
      have hp2 := Kd.R_drew (Kd.R_putn hp1 (jn : Int) (ys.getD i 0))
      simp only [Int.toNat_natCast] at hp1 hp2
      obtain ⟨ya, hya⟩ : ∃ a, ys.getD i 0 = a := ⟨_, rfl⟩
      obtain ⟨yb, hyb⟩ : ∃ a, ys.getD jn 0 = a := ⟨_, rfl⟩
      rw [hya] at ci hp2 hstep
      rw [hyb] at cj hp2 hstep
      have hne : Bg ≠ g := by
        rintro rfl
        obtain ⟨cells, hc⟩ := hty
        have e0 := HK.out.2.symm.trans hc
        rw [show w.heap[Bg]? = _ from hB] at e0
        simp at e0
        exact ht e0.2
      have hstep' := Aside0.mk hstep
      have hp2' := Aside0.mk hp2
      have hle : ((i : Int) < (jn : Int)) := by omega
      clear hp1 hp2 hstep ej hlt hty hya hyb
      have hix : i < xs.length := by omega
      have mixed : Tryd.prog.follows Departure.mixedOrders = true := by kernel_rfl
      go_wp2_with fail
      go_region_o
      go_wp2
      go_roundg (xs.length - (i + 1))
      case measure => omega
      case rel =>
        exact ⟨i + 1, _, by omega, by omega, rfl, congrArg (Value.int .i64) (by omega), hstep', hp2', ⟨HK.out.trans (((KB.set wr hbg hne i _).trans (KB.set _ hbg hne jn _)).trans (KB.drew _))⟩⟩
    · go_wp2
      go_end0
      refine ⟨rfl, ?_, HK.out⟩
      rw [← HV.out.done (by omega)]; exact HO.out
/-! #### slices.IndexFunc, slices.DeleteFunc over ints -/
/-- What is asked of a function value over ints, in whatever world has kept what lay below n₀ and the box B. -/
def AsksI (g B n₀ : Nat) (p : Int → Bool) (w : World) : Prop :=
  ∀ (W : World) (x : Int), KB n₀ B w W → Calls Tryd.prog g #[.int .i64 x, .pointer (some ⟨B, 0, none⟩)] W fun e w' => e = .returned (.bool (p x)) ∧ Below W.heap.size W w'
theorem rd_get {l : List Int} {j : Nat} (hj : j < l.length) : rd l (j : Int) = l[j] := by
  unfold rd
  rw [Int.toNat_natCast, List.getD_eq_getElem?_getD, List.getElem?_eq_getElem hj]; rfl
set_option maxHeartbeats 4000000 in
set_option maxRecDepth 1000000 in
theorem indexI (g B n₀ : Nat) (p : Int → Bool) (eg : ∀ args w, (callFunc g args).run Tryd.prog w = .ok (.enter g args) w) (A0 : Option Addr) (c0 : Nat) (l0 : List Int) (w0 w : World)
    (hr0 : Kd.C (Kd.int .i64) w A0 l0.length l0) (hp : AsksI g B n₀ p w0) (hk : KB n₀ B w0 w) (hn : n₀ ≤ w.heap.size) (hBl : B < w.heap.size) :
    Calls Tryd.prog 39 #[.slice A0 l0.length c0, .func (.func g) #[] #[.pointer (some ⟨B, 0, none⟩)]] w fun e w' => (∃ r : Int, e = .returned (.int .i64 r) ∧ ((r = -1 ∧ ∀ j (hj : j < l0.length), p l0[j] = false) ∨ ∃ (k : Nat) (hk : k < l0.length), r = (k : Int) ∧ p l0[k] = true ∧ ∀ j (hj : j < l0.length), j < k → p l0[j] = false)) ∧ Below w.heap.size w w' := by
  have HR0 := Aside0.mk hr0
  have HP := Aside0.mk hp
  have HK := Aside0.mk hk
  clear hr0 hp hk
  go_enter Tryd.func39, Tryd.ntmps39
  go_wp2
  go_loopg [5, 8] l0.length (fun gg _ s8 wr => ∃ kk : Nat, kk ≤ l0.length ∧ l0.length - kk ≤ gg ∧ s8 = .int .i64 kk ∧ Aside0 (Below w.heap.size w wr) ∧ Aside0 (∀ j (hj : j < l0.length), j < kk → p l0[j] = false))
  case atStart => exact ⟨0, Nat.zero_le _, by omega, rfl, ⟨Below.refl _ w⟩, ⟨fun j _ hj => absurd hj (Nat.not_lt_zero _)⟩⟩
  case round =>
    obtain ⟨kk, hkk, hg, rfl, HB, HA⟩ := hrel
    by_cases hlt : kk < l0.length
    · have hltz : ((kk : Int) < (l0.length : Int)) := by omega
      have p0 : (0 : Int) ≤ (kk : Int) := by omega
      have hbig := HR0.out.2.1
      obtain ⟨ad, e1, hx⟩ := Kd.at_int HR0.out (kk : Int) p0 hltz
      cases e1
      replace hx := (HB.out.cell (World.block_lt_of_cell? w _ hx)).trans hx
      simp only [Int.toNat_natCast] at hx
      have HC := Aside0.mk (HP.out wr (rd l0 (kk : Int)) (HK.out.trans (KB.of_below HB.out hn hBl)))
      have hy := rd_get hlt
      replace hbig := Aside0.mk hbig
      generalize rd l0 (kk : Int) = y at hx HC hy
      replace hy := Aside0.mk hy
      cases hq : p y with
      | true =>
        rw [hq] at HC
        replace hq := Aside0.mk hq
        go_wp2
        refine HC.out.mono ?_
        rintro e w' ⟨rfl, hb'⟩
        go_wp2
        go_ret
        exact ⟨⟨_, rfl, .inr ⟨kk, hlt, rfl, by rw [← hy.out]; exact hq.out, HA.out⟩⟩, below_step HB.out hb'⟩
      | false =>
        rw [hq] at HC
        replace hq := Aside0.mk hq
        go_wp2
        refine HC.out.mono ?_
        rintro e w' ⟨rfl, hb'⟩
        go_wp2
        go_roundg (l0.length - (kk + 1))
        case measure => omega
        case rel =>
          refine ⟨kk + 1, by omega, by omega, congrArg (Value.int .i64) (by have := hbig.out; unfold wrap64; omega), ⟨below_step HB.out hb'⟩, ⟨fun j hj hj1 => ?_⟩⟩
          by_cases e : j = kk
          · subst e
            rw [← hy.out]; exact hq.out
          · exact HA.out j hj (by omega)
    · have hltz : ¬ ((kk : Int) < (l0.length : Int)) := by omega
      go_wp2
      go_ret
      exact ⟨⟨_, rfl, .inl ⟨rfl, fun j hj => HA.out j hj (by omega)⟩⟩, HB.out⟩
/-- What a clear leaves: the row, its head as it was. -/
theorem clearR {base g n cap : Nat} : ∀ (m i : Nat) (W : World) (xs : List Int), Kd.R (Kd.int .i64) 3 W base (fun _ => True) (.slice (some ⟨g, 0, none⟩) n cap) xs → i + m ≤ n →
    ∃ ys, Kd.R (Kd.int .i64) 3 (W.setCells g i (List.replicate m (.int .i64 0))) base (fun _ => True) (.slice (some ⟨g, 0, none⟩) n cap) ys ∧ ys.take i = xs.take i ∧ ys.length = xs.length ∧ ∀ B n₀, n₀ ≤ g → B ≠ g → KB n₀ B W (W.setCells g i (List.replicate m (.int .i64 0)))
  | 0, i, W, xs, h, _ => ⟨xs, h, rfl, rfl, fun B n₀ _ _ => KB.refl _ _ _⟩
  | m + 1, i, W, xs, h, hm => by
    have h1 := Kd.R_putn h (i : Int) (0 : Int)
    rw [Int.toNat_natCast] at h1
    obtain ⟨ys, hy, ht, hl, hk⟩ := clearR m (i + 1) _ _ h1 (by omega)
    refine ⟨ys, hy, ?_, by rw [hl, List.length_set], fun B n₀ h0 hB => (KB.set W h0 hB i _).trans (hk B n₀ h0 hB)⟩
    have e := congrArg (List.take i) ht
    rw [List.take_take, List.take_take, Nat.min_eq_left (by omega)] at e
    rw [e, List.take_set]
    apply List.ext_getElem?
    intro k
    rw [List.getElem?_set]
    by_cases hk : i = k
    · subst hk
      rw [if_pos rfl, if_neg (by rw [List.length_take]; omega), List.getElem?_eq_none (by rw [List.length_take]; omega)]
    · rw [if_neg hk]
/-- The second loop's relation: of the first j elements those that are kept lie at the row's head, i of them; behind j the row is as it was. -/
def Kpt (p : Int → Bool) (xs ys : List Int) (i j : Nat) : Prop := ys.length = xs.length ∧ i < j ∧ ys.take i = (xs.take j).filter (fun x => !p x) ∧ ys.drop j = xs.drop j
theorem take_succ' {l : List Int} {j : Nat} (h : j < l.length) : l.take (j + 1) = l.take j ++ [l[j]] := by rw [← List.take_concat_get (h := h), List.concat_eq_append]
theorem Kpt.start {p : Int → Bool} {xs : List Int} {k : Nat} (hk : k < xs.length) (ht : p xs[k] = true) (hf : ∀ j (hj : j < xs.length), j < k → p xs[j] = false) : Kpt p xs xs k (k + 1) := by
  refine ⟨rfl, Nat.lt_succ_self _, ?_, rfl⟩
  rw [take_succ' hk, List.filter_append]
  have e1 : [xs[k]].filter (fun x => !p x) = [] := by simp [ht]
  rw [e1, List.append_nil]
  refine (List.filter_eq_self.2 fun x hx => ?_).symm
  obtain ⟨j, hj, rfl⟩ := List.mem_iff_getElem.1 hx
  rw [List.length_take] at hj
  rw [List.getElem_take, hf j (by omega) (by omega)]; rfl
theorem Kpt.at {p : Int → Bool} {xs ys : List Int} {i j : Nat} (h : Kpt p xs ys i j) (hj : j < xs.length) : rd ys (j : Int) = xs[j] := by
  obtain ⟨hl, _, _, hd⟩ := h
  rw [rd_get (by omega)]
  have e := congrArg (fun l => l[0]?) hd
  simp only [List.getElem?_drop, Nat.add_zero] at e
  rw [List.getElem?_eq_getElem (by omega), List.getElem?_eq_getElem hj] at e
  exact Option.some.inj e
theorem Kpt.keep {p : Int → Bool} {xs ys : List Int} {i j : Nat} (h : Kpt p xs ys i j) (hj : j < xs.length) (hp : p xs[j] = false) : Kpt p xs (ys.set i xs[j]) (i + 1) (j + 1) := by
  obtain ⟨hl, hij, ht, hd⟩ := h
  refine ⟨by simp [hl], by omega, ?_, ?_⟩
  · rw [take_succ' hj, List.filter_append, ← ht]
    have e1 : [xs[j]].filter (fun x => !p x) = [xs[j]] := by simp [hp]
    rw [e1, take_succ' (by rw [List.length_set]; omega), List.getElem_set_self, List.take_set_of_le (Nat.le_refl _)]
  · rw [List.drop_set_of_lt (by omega)]
    have e := congrArg (List.drop 1) hd
    rw [List.drop_drop, List.drop_drop] at e
    exact e
theorem Kpt.skip {p : Int → Bool} {xs ys : List Int} {i j : Nat} (h : Kpt p xs ys i j) (hj : j < xs.length) (hp : p xs[j] = true) : Kpt p xs ys i (j + 1) := by
  obtain ⟨hl, hij, ht, hd⟩ := h
  refine ⟨hl, by omega, ?_, ?_⟩
  · rw [take_succ' hj, List.filter_append, ← ht]
    have e1 : [xs[j]].filter (fun x => !p x) = [] := by simp [hp]
    rw [e1, List.append_nil]
  · have e := congrArg (List.drop 1) hd
    rw [List.drop_drop, List.drop_drop] at e
    exact e
/-- What slices.DeleteFunc over ints answers, and what it leaves. -/
theorem zero_int : ∀ w, (zeroValue 3).run Tryd.prog w = .ok (Value.int .i64 0) w := fun w => by kernel_rfl
set_option maxHeartbeats 8000000 in
set_option maxRecDepth 1000000 in
theorem deleteI (g B n₀ t : Nat) (bv : Value) (p : Int → Bool) (eg : ∀ args w, (callFunc g args).run Tryd.prog w = .ok (.enter g args) w) (A0 : Option Addr) (c0 : Nat) (xs : List Int) (w0 w : World)
    (hR : Kd.R (Kd.int .i64) 3 w n₀ (fun _ => True) (.slice A0 xs.length c0) xs) (hp : AsksI g B n₀ p w0) (hk : KB n₀ B w0 w) (hn : n₀ ≤ w.heap.size) (hB : Boxed w B t bv) (ht : t ≠ 3) :
    Calls Tryd.prog 26 #[.slice A0 xs.length c0, .func (.func g) #[] #[.pointer (some ⟨B, 0, none⟩)]] w fun e w' => ∃ v : Value, e = .returned v ∧ Kd.R (Kd.int .i64) 3 w' n₀ (fun _ => True) v (xs.filter fun x => !p x) ∧ Below n₀ w w' := by
  have HI := Aside0.mk (indexI g B n₀ p eg A0 c0 xs w0 w (Kd.R_reads' hR).2.2 hp hk hn hB.lt)
  have HR := Aside0.mk hR
  have HP := Aside0.mk hp
  have HK := Aside0.mk hk
  have hbig := (Kd.R_reads' hR).2.2.2.1
  have hcap := (Kd.R_reads' hR).2.1
  clear hR hp hk
  go_enter Tryd.func26, Tryd.ntmps26
  go_wp2_with (go_at_call 39; refine HI.out.mono ?_; rintro e w1 ⟨⟨r, rfl, hr⟩, hb1⟩; rcases hr with ⟨rfl, hall⟩ | ⟨k0, hk0, rfl, hpt, hpf⟩)
  · go_ret
    refine ⟨_, rfl, ?_, hb1.mono hn⟩
    rw [List.filter_eq_self.2 (fun x hx => by obtain ⟨j, hj, rfl⟩ := List.mem_iff_getElem.1 hx; rw [hall j hj]; rfl)]
    exact Kd.R_below HR.out hb1
  · obtain ⟨gg0, cap, e1, hbg, hgl, hty⟩ := Kd.R_form HR.out (by omega)
    cases e1
    have hne : B ≠ gg0 := by
      rintro rfl
      obtain ⟨cells, hc⟩ := hty
      rw [show w.heap[B]? = _ from hB] at hc
      simp at hc
      exact ht hc.2
    have HK1 := Aside0.mk (KB.of_below (n₀ := n₀) (Bg := B) hb1 hn hB.lt)
    have hR1 := Kd.R_below HR.out hb1
    have hst := Kpt.start hk0 hpt hpf
    clear hty HI
    go_loopg [5, 6, 7] xs.length (fun gg s5 s6 _ wr => ∃ (i j : Nat) (ys : List Int), s5 = .int .i64 i ∧ s6 = .int .i64 j ∧ j ≤ xs.length ∧ xs.length - j ≤ gg ∧ Aside0 (Kpt p xs ys i j) ∧ Aside0 (Kd.R (Kd.int .i64) 3 wr n₀ (fun _ => True) (.slice (some ⟨gg0, 0, none⟩) xs.length c0) ys) ∧ Aside0 (KB n₀ B w wr))
    case atStart => exact ⟨k0, k0 + 1, xs, rfl, rfl, by omega, by omega, ⟨hst⟩, ⟨hR1⟩, HK1⟩
    case round =>
      obtain ⟨i, j, ys, rfl, rfl, hjl, hgg, HV, HO, HW⟩ := hrel
      have hij := HV.out.2.1
      have hyl := HV.out.1
      by_cases hlt : j < xs.length
      · have hltz : (j : Int) < (xs.length : Int) := by omega
        have p0 : (0 : Int) ≤ (j : Int) := by omega
        have hbig' := hbig
        have HC := Aside0.mk (HP.out wr xs[j] (HK.out.trans HW.out))
        obtain ⟨cj, _⟩ := Kd.R_celln 0 HO.out (j : Int) (by omega) (by omega)
        rw [show rdOf 0 ys (j : Int) = xs[j] from HV.out.at hlt] at cj
        simp only [Int.toNat_natCast] at cj
        have hkeep := fun h => HV.out.keep hlt h
        have hskip := fun h => HV.out.skip hlt h
        have HKp := Aside0.mk hkeep
        have HSk := Aside0.mk hskip
        clear hkeep hskip
        generalize xs[j] = u at cj HC HKp HSk
        cases hq : p u with
        | false =>
          rw [hq] at HC HKp
          go_wp2
          refine HC.out.mono ?_
          rintro e w2 ⟨rfl, hb2⟩
          have hR2 := Kd.R_below HO.out hb2
          obtain ⟨ci, fi⟩ := Kd.R_celln 0 hR2 (i : Int) (by omega) (by omega)
          simp only [Int.toNat_natCast] at ci fi
          have hp2 := Kd.R_putn hR2 (i : Int) u
          rw [Int.toNat_natCast] at hp2
          have hp2' := Aside0.mk hp2
          have HW2 := Aside0.mk (HW.out.trans (KB.of_below hb2 (Nat.le_trans hn HW.out.1.size) (Nat.lt_of_lt_of_le hB.lt HW.out.1.size)))
          have hix : (i : Int) < (xs.length : Int) := by omega
          have hi0 : (0 : Int) ≤ (i : Int) := by omega
          clear hp2
          go_wp2
          go_roundg (xs.length - (j + 1))
          case measure => omega
          case rel =>
            exact ⟨i + 1, j + 1, _, congrArg (Value.int .i64) (by omega), congrArg (Value.int .i64) (by omega), by omega, by omega, ⟨HKp.out (by trivial)⟩, hp2', ⟨HW2.out.trans (KB.set w2 hbg hne i _)⟩⟩
        | true =>
          rw [hq] at HC HSk
          go_wp2
          refine HC.out.mono ?_
          rintro e w2 ⟨rfl, hb2⟩
          have hR2 := Aside0.mk (Kd.R_below HO.out hb2)
          have HW2 := Aside0.mk (HW.out.trans (KB.of_below hb2 (Nat.le_trans hn HW.out.1.size) (Nat.lt_of_lt_of_le hB.lt HW.out.1.size)))
          go_wp2
          go_roundg (xs.length - (j + 1))
          case measure => omega
          case rel =>
            exact ⟨i, j + 1, ys, rfl, congrArg (Value.int .i64) (by omega), by omega, by omega, ⟨HSk.out (by trivial)⟩, hR2, HW2⟩
      · obtain rfl : j = xs.length := by omega
        have hltz : ¬ (xs.length : Int) < (xs.length : Int) := by omega
        have hil : i < xs.length := hij
        have hiz : (i : Int) ≤ (xs.length : Int) := by omega
        have hcl : ∀ ty, (Builtin.clear_ #[29] ty #[.slice (some ⟨gg0, i, none⟩) (xs.length - i) (c0 - i)]).run Tryd.prog wr = .ok (.tuple #[]) (wr.setCells gg0 i (List.replicate (xs.length - i) (.int .i64 0))) :=
          fun ty => Lib.run_clear_slice wr _ _ ty _ Tryd.underlying29 zero_int rfl rfl gg0 i _ _ (by omega)
            (fun t ht' => by
              obtain ⟨ci, _⟩ := Kd.R_celln 0 HO.out ((i + t : Nat) : Int) (by omega) (by omega)
              rw [Int.toNat_natCast] at ci
              rw [ci]; rfl)
            (fun t ht' => by
              obtain ⟨_, fi⟩ := Kd.R_celln 0 HO.out ((i + t : Nat) : Int) (by omega) (by omega)
              rw [Int.toNat_natCast] at fi
              exact fi)
        obtain ⟨zs, hz, hzt, hzl, hzk⟩ := clearR (xs.length - i) i wr ys HO.out (by omega)
        have hfin := Aside0.mk (Kd.R_take hz (m := i) (by omega))
        have hKz := Aside0.mk (hzk B n₀ hbg hne)
        have hts := HV.out.2.2.1
        rw [List.take_length] at hts
        clear hz
        go_wp2
        go_ret
        refine ⟨_, rfl, ?_, (HW.out.trans hKz.out).1⟩
        rw [← hts, ← hzt]
        exact hfin.out
/-! #### dag.Leaves -/
/-- Whether a revision is a parent of one. -/
def isParent (l0 : List S43) (id : Int) : Bool := l0.any fun r => r.f3.contains id
theorem index_at (l : List Int) (hlen : l.length ≤ 9223372036854775807) (a : Int) (k : Nat) : ∀ (j : Nat), j ≤ l.length → l.length - j < k → ∃ r, slices_Index_int_int.l0 k l a (l.length : Int) (j : Int) = some r ∧ decide (r ≥ 0) = (l.drop j).contains a := by
  induction k with
  | zero => intro j _ h; omega
  | succ k ih =>
    intro j hj hk
    rw [slices_Index_int_int.l0]
    by_cases c : j < l.length
    · rw [if_pos (by omega), if_pos (by omega), if_pos (by omega), rd_get c]
      have hd : l.drop j = l[j] :: l.drop (j + 1) := List.drop_eq_getElem_cons c
      by_cases e : a = l[j]
      · rw [if_pos e]
        refine ⟨_, rfl, ?_⟩
        rw [hd, decide_eq_true (by omega), List.contains_cons, e]
        simp only [BEq.rfl, Bool.true_or]
      · rw [if_neg e]
        have hw : wrap64 ((j : Int) + 1) = ((j + 1 : Nat) : Int) := by unfold wrap64; omega
        obtain ⟨r, h1, h2⟩ := ih (j + 1) (by omega) (by omega)
        refine ⟨r, by rw [hw]; exact h1, ?_⟩
        rw [h2, hd, List.contains_cons, beq_eq_false_iff_ne.2 e, Bool.false_or]
    · rw [if_neg (by omega)]
      refine ⟨_, rfl, ?_⟩
      rw [List.drop_of_length_le (by omega)]
      rfl
theorem contains_at (l : List Int) (hlen : l.length ≤ 9223372036854775807) (a : Int) : slices_Contains_int_int.f (l.length + 1) l a = some (l.contains a) := by
  obtain ⟨r, h1, h2⟩ := index_at l hlen a (l.length + 1) 0 (by omega) (by omega)
  unfold slices_Contains_int_int.f slices_Index_int_int.f
  rw [show ((0 : Int)) = ((0 : Nat) : Int) from rfl, h1]
  show some (decide (r ≥ 0)) = _
  rw [h2]; rfl
set_option maxHeartbeats 4000000 in
set_option maxRecDepth 1000000 in
theorem leaf29 (id : Int) (Bi : Nat) (x : S43) (A3 : Option Addr) (c3 : Nat) (W : World) (hB : W.cell? ⟨Bi, 0, none⟩ = some (.int .i64 id)) (hl : x.f3.length ≤ c3) (h3 : Kd.C (Kd.int .i64) W A3 x.f3.length x.f3) (HG : Aside0 (Laid W)) :
    Calls Tryd.prog 29 #[.agg #[.int .i64 x.f0, .string x.f1, .int .i64 x.f2, .slice A3 x.f3.length c3], .pointer (some ⟨Bi, 0, none⟩)] W fun e w' => e = .returned (.bool (x.f3.contains id)) ∧ Below W.heap.size W w' := by
  have hlt := World.block_lt_of_cell? W _ hB
  have HB := Aside0.mk (below_alloc (Below.refl W.heap.size W) (.cells #[.int .i64 x.f0, .string x.f1, .int .i64 x.f2, .slice A3 x.f3.length c3] 43))
  have HC := Aside0.mk (slices_Contains_int_int.calls (x.f3.length + 1) A3 c3 x.f3 id _ _ (Kd.C_alloc h3 (.cells #[.int .i64 x.f0, .string x.f1, .int .i64 x.f2, .slice A3 x.f3.length c3] 43)) hl (contains_at x.f3 h3.2.1 id) (Aside0.mk (Laid.below HG.out HB.out)))
  generalize x.f3.contains id = b at HC ⊢
  go_enter Tryd.func29, Tryd.ntmps29
  go_wp2_with (go_at_call 30; refine HC.out.mono ?_; rintro e w' ⟨rfl, hd⟩)
  go_ret
  exact ⟨rfl, below_step HB.out hd.below⟩
set_option maxHeartbeats 4000000 in
set_option maxRecDepth 1000000 in
theorem leaf27 (id : Int) (B : Nat) (A0 : Option Addr) (c0 : Nat) (l0 : List S43) (W : World) (hB : W.cell? ⟨B, 0, none⟩ = some (.slice A0 l0.length c0)) (hg : Kd.C k43 W A0 l0.length l0) (HG : Aside0 (Laid W)) :
    Calls Tryd.prog 27 #[.int .i64 id, .pointer (some ⟨B, 0, none⟩)] W fun e w' => e = .returned (.bool (isParent l0 id)) ∧ Below W.heap.size W w' := by
  have hlt := World.block_lt_of_cell? W _ hB
  have HB := Aside0.mk (below_alloc (Below.refl W.heap.size W) (.cells #[.int .i64 id] 3))
  have HC := Aside0.mk (containsF 29 W.heap.size (fun x => x.f3.contains id) (enters_of Tryd.func29 (by kernel_rfl) rfl) A0 c0 l0 (W.alloc (.cells #[.int .i64 id] 3)) (Kd.C_alloc hg _) (fun W' x A3 c3 hb hl h3 => by
    refine (leaf29 id W.heap.size x A3 c3 W' ?_ hl h3 (Aside0.mk (Laid.below HG.out (below_step HB.out hb)))).mono fun e w' hh => ⟨hh.1, below_step hb hh.2⟩
    exact (hb.cell (p := ⟨W.heap.size, 0, none⟩) (by simp)).trans (by simp)))
  unfold isParent
  generalize (l0.any fun r => r.f3.contains id) = b at HC ⊢
  go_enter Tryd.func27, Tryd.ntmps27
  go_wp2_with (go_at_call 28; refine HC.out.mono ?_; rintro e w' ⟨rfl, hb'⟩)
  go_ret
  exact ⟨rfl, below_step HB.out hb'⟩
def dag_Leaves.f (k : Nat) (l0 : List S43) (a1 : ByteArray) : Option (List Int) := (dag_History.f k l0 a1).bind fun t => some (t.reverse.filter fun id => !isParent l0 id)
theorem dag_Leaves.mono : ∀ a0 a1 k, LeO (dag_Leaves.f k a0 a1) (dag_Leaves.f (k + 1) a0 a1) := by
  intro a0 a1 k r h
  unfold dag_Leaves.f at h ⊢
  cases hc : dag_History.f k a0 a1 with
  | none => rw [hc] at h; cases h
  | some t => rw [hc] at h; rw [dag_History.mono a0 a1 k t hc]; exact h
set_option maxHeartbeats 4000000 in
set_option maxRecDepth 1000000 in
theorem dag_Leaves.calls (k : Nat) (A0 : Option Addr) (c0 : Nat) (l0 : List S43) (a1 : ByteArray) (r : List Int) (w : World) (hr0 : Kd.C k43 w A0 l0.length l0) (hc0 : l0.length ≤ c0) (h : dag_Leaves.f k l0 a1 = some r) (HG : Aside0 (Laid w)) :
    Calls Tryd.prog 12 #[.slice A0 l0.length c0, .string a1] w fun e w' => ∃ v0_ : Value, e = .returned v0_ ∧ Kd.R (Kd.int .i64) 3 w' w.heap.size (fun _ => True) v0_ r ∧ Below w.heap.size w w' := by
  have HR0 := Aside0.mk hr0
  unfold dag_Leaves.f at h
  cases hh : dag_History.f k l0 a1 with
  | none => rw [hh] at h; cases h
  | some t =>
  rw [hh] at h
  have hr : t.reverse.filter (fun id => !isParent l0 id) = r := Option.some.inj h
  subst hr
  clear h
  have HB := Aside0.mk (below_alloc (Below.refl w.heap.size w) (.cells #[.slice A0 l0.length c0] 22))
  have HH := Aside0.mk (dag_History.calls k A0 c0 l0 a1 t (w.alloc (.cells #[.slice A0 l0.length c0] 22)) (Kd.C_alloc hr0 _) hc0 hh (Aside0.mk (Laid.below HG.out HB.out)))
  have bX := Boxed.new w 22 (.slice A0 l0.length c0)
  clear hr0 hh
  go_enter Tryd.func12, Tryd.ntmps12
  go_wp2_with (go_at_call 11; refine HH.out.mono ?_; rintro e w1 ⟨v1, rfl, ho1, hb1⟩; obtain ⟨A1, c1, rfl⟩ := Kd.R_slice ho1; have HB1 := Aside0.mk (below_step HB.out hb1); have hO1 := Kd.R_lower ho1 (show w.heap.size ≤ _ by simp); have bX1 : Boxed w1 w.heap.size 22 (.slice A0 l0.length c0) := (hb1.block w.heap.size (by simp)).trans bX)
  refine (revI w.heap.size w.heap.size 22 (.slice A0 l0.length c0) A1 c1 t w1 hO1 bX1 (by decide)).mono ?_
  rintro e w2 ⟨rfl, ho2, hk2⟩
  have bX2 : Boxed w2 w.heap.size 22 (.slice A0 l0.length c0) := hk2.2.trans bX1
  have hB2 : Below w.heap.size w w2 := HB1.out.trans hk2.1
  have hbs := hB2.size
  rw [show t.length = t.reverse.length from List.length_reverse.symm] at ho2
  have HD := Aside0.mk (deleteI 27 w.heap.size w.heap.size 22 (.slice A0 l0.length c0) (isParent l0) (enters_of Tryd.func27 (by kernel_rfl) rfl) A1 c1 t.reverse w2 w2 ho2 (fun W x hk => leaf27 x w.heap.size A0 c0 l0 W (Boxed.cell (hk.2.trans bX2)) (Kd.C_below HR0.out (hB2.trans hk.1)) (Aside0.mk (Laid.below HG.out (hB2.trans hk.1)))) (KB.refl _ _ _) hbs bX2 (by decide))
  rw [List.length_reverse] at HD
  go_wp2_with (go_at_call 26; refine HD.out.mono ?_; rintro e w3 ⟨v3, rfl, ho3, hb3⟩)
  go_ret
  exact ⟨_, rfl, ho3, hB2.trans hb3⟩
end Go.Proofs.YtgopimjfoppkmaaDoor.D
