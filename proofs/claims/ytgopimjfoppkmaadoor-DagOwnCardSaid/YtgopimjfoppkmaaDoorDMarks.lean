/- dag.marks, walked by hand: what it answers. -/
import Derived.Test.YtgopimjfoppkmaaDoorDHist
namespace Go.Proofs.YtgopimjfoppkmaaDoor.D
open Go.RowKit Go.Shelf Go.Proofs.YtgopimjfoppkmaaDoorW.PrintWords Go.Proofs.YtgopimjfoppkmaaDoorW.PrintLast
attribute [local go_sem] Oper.semAt_some

def setAll (o : List Bool) (ps : List Int) : List Bool := ps.foldl (fun o p => o.set (p - 1).toNat true) o
theorem setAll_len (ps : List Int) : ∀ o, (setAll o ps).length = o.length := by
  induction ps with
  | nil => intro o; rfl
  | cons p ps ih => intro o; show (setAll (o.set (p - 1).toNat true) ps).length = o.length; rw [ih, List.length_set]
theorem setAll_snoc (o : List Bool) (ps : List Int) (p : Int) : setAll o (ps ++ [p]) = (setAll o ps).set (p - 1).toNat true := by unfold setAll; rw [List.foldl_append]; rfl
theorem setAll_take (o : List Bool) (ps : List Int) {j : Nat} (h : j < ps.length) : setAll o (ps.take (j + 1)) = (setAll o (ps.take j)).set (rd ps (j : Int) - 1).toNat true := by
  rw [← List.take_concat_get (h := h), List.concat_eq_append, setAll_snoc]
  unfold rd
  rw [Int.toNat_natCast, List.getD_eq_getElem?_getD, List.getElem?_eq_getElem h]; rfl
def markF (l0 : List S43) (o : List Bool) (x : Fin l0.length) : List Bool := if o.getD x.val false = true then setAll o (rd_T43 l0 (x.val : Int)).f3 else o
def marksF (l0 : List S43) (ids : List Int) (pre : List (Fin l0.length)) : List Bool := pre.foldl (markF l0) (setAll (List.replicate l0.length false) ids)
theorem marksF_snoc (l0 : List S43) (ids : List Int) (pre : List (Fin l0.length)) (x : Fin l0.length) : marksF l0 ids (pre ++ [x]) = markF l0 (marksF l0 ids pre) x := by unfold marksF; rw [List.foldl_append]; rfl
theorem markF_len (l0 : List S43) (o : List Bool) (x : Fin l0.length) : (markF l0 o x).length = o.length := by
  unfold markF
  split
  · exact setAll_len _ _
  · rfl
theorem marksF_len (l0 : List S43) (ids : List Int) (pre : List (Fin l0.length)) : (marksF l0 ids pre).length = l0.length := by
  unfold marksF
  generalize hO : setAll (List.replicate l0.length false) ids = o
  have h : o.length = l0.length := by rw [← hO, setAll_len, List.length_replicate]
  clear hO
  induction pre generalizing o with
  | nil => exact h
  | cons x pre ih => exact ih _ (by rw [markF_len, h])
/-- All of them are numbers of revisions. -/
def inAll (n : Nat) (ps : List Int) : Bool := ps.all fun p => decide (1 ≤ p) && decide (p ≤ (n : Int))
theorem inAll_at {n : Nat} {ps : List Int} (h : inAll n ps = true) {j : Nat} (hj : j < ps.length) : 1 ≤ rd ps (j : Int) ∧ rd ps (j : Int) ≤ (n : Int) := by
  have := List.all_eq_true.1 h ps[j] (List.getElem_mem hj)
  have e : rd ps (j : Int) = ps[j] := by
    unfold rd
    rw [Int.toNat_natCast, List.getD_eq_getElem?_getD, List.getElem?_eq_getElem hj]; rfl
  rw [Bool.and_eq_true, decide_eq_true_iff, decide_eq_true_iff] at this
  rw [e]; exact this
theorem par_at {l0 : List S43} (h : (l0.all fun r => inAll l0.length r.f3) = true) {j : Nat} (hj : j < l0.length) : inAll l0.length (rd_T43 l0 (j : Int)).f3 = true := by
  have := List.all_eq_true.1 h l0[j] (List.getElem_mem hj)
  have e : rd_T43 l0 (j : Int) = l0[j] := by
    unfold rd_T43
    rw [Int.toNat_natCast, List.getD_eq_getElem?_getD, List.getElem?_eq_getElem hj]; rfl
  rw [e]; exact this
theorem R_putObj {v : Value} {xs : List Bool} {base e : Nat} {W : World} (h : Kd.R Kd.bool e W base (fun _ => True) v xs) {l : Nat} {o : Obj} (o' : Obj) (hl : W.heap[l]? = some o) (ho : o.isCells = false) : Kd.R Kd.bool e (W.putObj l o') base (fun _ => True) v xs :=
  Kd.R_of_own (ownsRow_putObj (Kd.own_of_R h) o' hl ho) (fun _ _ => trivial)
theorem rBool_own {β : Type} (e base : Nat) (v : Value) (f : β → List Bool) : Own (fun (s : β) W => Kd.R Kd.bool e W base (fun _ => True) v (f s)) := fun s X Y row hs hg hrow => by
  refine Kd.R_of_own ((Kd.own_of_R hs).kept hg ?_) (fun _ _ => trivial)
  rcases (Kd.own_of_R hs).2 with ⟨rfl, _⟩ | ⟨g, cap, cur, rfl, _, hgb, _⟩
  · exact .inl rfl
  · refine .inr fun e' => ?_
    obtain ⟨o, ho, hc⟩ := hrow g (by simpa [Value.ownBlock] using e'.symm)
    rw [hgb] at ho; cases ho; cases hc
def okM (l0 : List S43) (ids : List Int) : Bool := decide (0 < l0.length) && (decide (l0.length ≤ 1000) && (inAll l0.length ids && l0.all fun r => inAll l0.length r.f3))
def dag_marks.f (l0 : List S43) (ids : List Int) : Option (List Bool) := if okM l0 ids = true then some (marksF l0 ids (dn l0.length l0.length)) else none
theorem info_bool : (Tryd.prog.info? 4).map (fun i => (i.zero, i.size, i.bytes)) = some (some (.bool false), 1, 1) := by kernel_rfl
set_option maxHeartbeats 8000000 in
set_option maxRecDepth 1000000 in
theorem dag_marks.calls (A0 : Option Addr) (c0 : Nat) (l0 : List S43) (A1 : Option Addr) (c1 : Nat) (ids : List Int) (r : List Bool) (w : World) (hr0 : Kd.C k43 w A0 l0.length l0) (hc0 : l0.length ≤ c0) (hr1 : Kd.C (Kd.int .i64) w A1 ids.length ids) (hc1 : ids.length ≤ c1) (h : dag_marks.f l0 ids = some r) (HG : Aside0 (Laid w)) :
    Calls Tryd.prog 34 #[.slice A0 l0.length c0, .slice A1 ids.length c1] w fun e w' => ∃ v0_ : Value, e = .returned v0_ ∧ Kd.R Kd.bool 4 w' w.heap.size (fun _ => True) v0_ r ∧ Below w.heap.size w w' := by
  have _ := HG
  have _ := hc0
  have _ := hc1
  obtain ⟨el, hE0, hP0⟩ := els_of hr0
  have HE := Aside0.mk hE0
  have HP := Aside0.mk hP0
  have HB9 := Aside0.mk hr0.2.1
  have HR1 := Aside0.mk hr1
  unfold dag_marks.f at h
  by_cases ok : okM l0 ids = true
  case neg => rw [if_neg ok] at h; cases h
  rw [if_pos ok] at h
  have hr := Aside0.mk (Option.some.inj h)
  unfold okM at ok
  simp only [Bool.and_eq_true, decide_eq_true_iff] at ok
  obtain ⟨hpos, h1000, hids, hpar⟩ := ok
  have h1000' := Aside0.mk h1000
  have hids' := Aside0.mk hids
  have hpar' := Aside0.mk hpar
  clear h hr0 hr1 hc0 hc1 hE0 hP0 h1000 hids hpar
  refine (callsIn_wide (n := 6)).1 ?_
  refine callsIn_of_wp_marks Tryd.func34 rfl trivial ?_ rfl
  simp only [Tryd.ntmps34, List.size_toArray, List.length_cons, List.length_nil, Nat.reduceAdd, Nat.reduceSub, Array.replicate_succ, Array.replicate_zero, List.push_toArray, List.append_toArray, List.nil_append, List.cons_append]
  refine wpIn_wide.2 ?_
  go_wp2_with ((with_reducible refine gate_dst (N := 14) rfl ?_); refine Kd.R_make Kd.bool _ 4 (N := 14) rfl rfl 59 (.tmp 13) (.tmp 13) rfl (l0.length : Int) rfl rfl Tryd.underlying59 (.bool false) 1 info_bool rfl (by decide) (by decide) false (ok := fun _ => True) (okp := fun _ => True) rfl (fun _ hk => hk) trivial (by omega) (by have := h1000'.out; omega) (Below.refl _ _) (Nat.le_refl _) ?_; intro v1 w1 ho1 hb1 hg1 hn1; obtain ⟨g, cap, rfl, hg, hgl, _⟩ := Kd.R_form ho1 (by simp; omega); simp only [Int.toNat_natCast, List.length_replicate] at ho1 ⊢)
  have hne : w1.heap.size ≠ g := by omega
  have hB1 : Below w.heap.size w w1 := hb1
  go_loopg [17, 7] ids.length (fun gg s17 _ wr => ∃ kk : Nat, kk ≤ ids.length ∧ ids.length - kk ≤ gg ∧ s17 = .int .i64 kk ∧ Aside0 (Boxed wr w1.heap.size 59 (.slice (some ⟨g, 0, none⟩) l0.length cap)) ∧ Aside0 (Kd.R Kd.bool 4 wr w.heap.size (fun _ => True) (.slice (some ⟨g, 0, none⟩) l0.length cap) (setAll (List.replicate l0.length false) (ids.take kk))) ∧ Aside0 (Below w.heap.size w wr))
  case atStart => exact ⟨0, Nat.zero_le _, by omega, rfl, ⟨Boxed.new w1 _ _⟩, ⟨Kd.R_alloc ho1 _⟩, ⟨hb1.alloc hb1.size _⟩⟩
  case round =>
    obtain ⟨kk, hkk, hg', rfl, HX, HO, HB⟩ := hrel
    by_cases hlt : kk < ids.length
    · have hltz : ((kk : Int) < (ids.length : Int)) := by omega
      have p0 : (0 : Int) ≤ (kk : Int) := by omega
      have hbig := HR1.out.2.1
      obtain ⟨ad, e1, hx⟩ := Kd.at_int HR1.out (kk : Int) p0 hltz
      cases e1
      replace hx := (HB.out.cell (World.block_lt_of_cell? w _ hx)).trans hx
      simp only [Int.toNat_natCast] at hx
      obtain ⟨hp1, hp2⟩ := inAll_at hids'.out hlt
      have hput := Kd.R_putg HO.out (rd ids (kk : Int) - 1) true
      obtain ⟨hcl, hfr⟩ := Kd.R_celln false HO.out (rd ids (kk : Int) - 1) (by omega) (by omega)
      rw [← setAll_take (List.replicate l0.length false) ids hlt] at hput
      have hc := HX.out.cell
      have hputa := Aside0.mk hput
      clear hput
      generalize rd ids (kk : Int) = p at hx hp1 hp2 hcl hfr hputa
      have e1 : (p - 1).toNat = p.toNat - 1 := by omega
      rw [e1] at hcl hfr hputa
      have q0 : 0 ≤ p - 1 := by omega
      have q1 : p - 1 < (l0.length : Int) := by omega
      have h1000'' := h1000'.out
      go_wp2
      go_roundg (ids.length - (kk + 1))
      case measure => omega
      case rel =>
        refine ⟨kk + 1, by omega, by omega, congrArg (Value.int .i64) (by omega), ⟨HX.out.kept hputa.out.2 (by simp; omega)⟩, ⟨hputa.out.1⟩, ⟨HB.out.setCell (p := ⟨g, _, none⟩) hg _⟩⟩
    · obtain rfl : kk = ids.length := by omega
      have hltz : ¬ ((ids.length : Int) < (ids.length : Int)) := by omega
      rw [List.take_length] at HO
      go_wp2_with (go_at_call 24; refine (callsIn_wide (n := 5)).1 ((back_in Fence.wide 5 trivial rfl _ _ _ _).mono ?_); rintro e w2 ⟨rfl, rfl⟩)
      refine (wpIn_wide (n := 6)).1 ?_
      have bX2 := HX.out.alloc (.cells #[.slice A0 l0.length c0] 22)
      have hgt : w1.heap.size < wr.heap.size := HX.out.lt
      have hO2 := Kd.R_alloc HO.out (.cells #[.slice A0 l0.length c0] 22)
      have bN := Boxed.new wr 22 (.slice A0 l0.length c0)
      have hB0 := HB.out.alloc HB.out.size (.cells #[.slice A0 l0.length c0] 22)
      have hsz : (wr.alloc (.cells #[.slice A0 l0.length c0] 22)).heap.size = wr.heap.size + 1 := by simp
      obtain ⟨W0, hW0⟩ : ∃ W0, wr.alloc (.cells #[.slice A0 l0.length c0] 22) = W0 := ⟨_, rfl⟩
      rw [hW0] at bX2 hO2 bN hB0 hsz ⊢
      clear hW0
      have hE0 := HE.out.below hB0
      have hBs := hB0.size
      refine wpIn_rangeFunc_ownH (α := Fin l0.length) rfl (by omega) (gf := 38) (lb := #[.pointer (some ⟨wr.heap.size, 0, none⟩)]) rfl trivial (enters_of Tryd.func38 (by kernel_rfl) rfl)
        (back_stops Fence.wide _ trivial rfl (by omega) wr.heap.size w.heap.size A0 c0 l0 HB9.out el W0 (by omega) bN hE0) KB.trans (KB.putObj (by omega) (by omega)) (Below.refl _ _) (fun _ => rfl)
        (fun pre W => (Boxed W w1.heap.size 59 (.slice (some ⟨g, 0, none⟩) l0.length cap) ∧ Kd.R Kd.bool 4 W w.heap.size (fun _ => True) (.slice (some ⟨g, 0, none⟩) l0.length cap) (marksF l0 ids pre) ∧ Boxed W wr.heap.size 22 (.slice A0 l0.length c0)) ∧ Below w.heap.size w W)
        (fun _ _ _ => False)
        (OwnFrom.and (OwnFrom.and (Own.from (boxed_own _ _ _) _) (OwnFrom.and (Own.from (rBool_own 4 w.heap.size _ (fun pre => marksF l0 ids pre)) _) (Own.from (boxed_own _ _ _) _))) (ownFrom_below (Nat.le_refl _) (by omega)))
        (fun _ _ _ _ _ hs _ _ => hs)
        ⟨⟨bX2, hO2, bN⟩, hB0⟩
        (fun x a' W => ∃ Bx, wr.heap.size < Bx ∧ W.heap[Bx]? = some (.cells #[.int .i64 (rd_T43 l0 (x.val : Int)).f0, .string (rd_T43 l0 (x.val : Int)).f1, .int .i64 (rd_T43 l0 (x.val : Int)).f2, .slice (el x.val).1 (rd_T43 l0 (x.val : Int)).f3.length (el x.val).2] 43 (0, 0)) ∧ a' = { tmps := #[.slice A0 l0.length c0, .slice A1 ids.length c1, undef, undef, .slice none 0 0, .pointer (some ⟨w1.heap.size, 0, none⟩), undef, u7, .int .i64 (x.val : Int), .pointer (some ⟨Bx, 0, none⟩), undef, undef, .slice A0 l0.length c0, .int .i64 l0.length, .slice (some ⟨g, 0, none⟩) l0.length cap, .slice A1 ids.length c1, .int .i64 ids.length, .int .i64 ids.length, .bool false, u19, u20, u21, u22, u23, u24, u25, .slice A0 l0.length c0, .func (.func 38) #[] #[.pointer (some ⟨wr.heap.size, 0, none⟩)], .int .i64 (x.val : Int), rv l0 el x.val, undef, undef, undef, undef, undef, undef, undef, undef, undef, undef, undef, undef, undef, undef, undef, undef, undef], defers := [] })
        (fun x a' _ X Y row hs hg hr => by obtain ⟨Bx, h1, h2, h3⟩ := hs; exact ⟨Bx, h1, cellsAt_own Bx _ _ () X Y row h2 hg (fun r e => (hr r e).2), h3⟩)
        ?assign ?body ?done ?stop
      case assign =>
        rintro l pre x W K ⟨⟨bX3, hO3, bN3⟩, hB3⟩ hK
        have hs3 := hB3.size
        dsimp only [rv]
        gi_wp2
        refine hK _ _ ?_ ?_ ?_ ⟨W.heap.size, bN3.lt, ?_, rfl⟩
        · exact (KeepsOthers.alloc _ _).from _
        · exact ⟨(Below.refl _ W).alloc hs3 _, Below.heap_alloc W _ _ bN3.lt⟩
        · exact ⟨⟨bX3.alloc _, Kd.R_alloc hO3 _, bN3.alloc _⟩, hB3.alloc hs3 _⟩
        · exact World.alloc_heap_new W _
      case body =>
        rintro l pre x a' W hl ⟨r, hr⟩ ⟨⟨bX3, hO3, bN3⟩, hB3⟩ ⟨Bx, hBx, hX, rfl⟩ hlt
        have hs3 := hB3.size
        have hc := bX3.cell
        have hxl := x.isLt
        have hcx3 : W.cell? ⟨Bx, 3, none⟩ = some (.slice (el x.val).1 (rd_T43 l0 (x.val : Int)).f3.length (el x.val).2) := (blk_cell hX 3).trans rfl
        obtain ⟨hcl0, _⟩ := Kd.R_celln false hO3 (x.val : Int) (by omega) (by omega)
        have hrdo : rdOf false (marksF l0 ids pre) (x.val : Int) = (marksF l0 ids pre).getD x.val false := by unfold rdOf; rw [Int.toNat_natCast]
        rw [hrdo] at hcl0
        simp only [Int.toNat_natCast] at hcl0
        have q0 : (0 : Int) ≤ (x.val : Int) := by omega
        have q1 : (x.val : Int) < (l0.length : Int) := by omega
        have hm := marksF_snoc l0 ids pre x
        unfold markF at hm
        have hPx := HP.out x.val hxl
        have hin := par_at hpar'.out hxl
        obtain ⟨y, hy⟩ : ∃ y, rd_T43 l0 (x.val : Int) = y := ⟨_, rfl⟩
        rw [hy] at hX hcx3 hm hPx hin
        clear HE HP HR1 hids' hpar' HB HX HO hE0 hO2 bX2 bN
        by_cases hb : (marksF l0 ids pre).getD x.val false = true
        · rw [if_pos hb] at hm
          rw [hb] at hcl0
          obtain ⟨hyl, hyc⟩ := hPx
          have hyc := Aside0.mk hyc
          have hya := Aside0.mk hin
          have hma := Aside0.mk hm
          have hO3a := Aside0.mk hO3
          have hB3a := Aside0.mk hB3
          clear hm hin hO3 hB3
          gi_wp2
          gi_loopw [37, 11] (fun s37 _ wr' => ∃ kk : Nat, kk ≤ y.f3.length ∧ s37 = .int .i64 kk ∧ Aside0 (Boxed wr' w1.heap.size 59 (.slice (some ⟨g, 0, none⟩) l0.length cap)) ∧ Aside0 (Kd.R Kd.bool 4 wr' w.heap.size (fun _ => True) (.slice (some ⟨g, 0, none⟩) l0.length cap) (setAll (marksF l0 ids pre) (y.f3.take kk))) ∧ Aside0 (Boxed wr' wr.heap.size 22 (.slice A0 l0.length c0)) ∧ Aside0 (KeepsOthers W wr') ∧ Aside0 (Below w.heap.size W wr'))
            (fun s37 _ _ => y.f3.length - (intOf s37).toNat)
          case atStart => exact ⟨0, Nat.zero_le _, rfl, ⟨bX3⟩, ⟨hO3a.out⟩, ⟨bN3⟩, ⟨KeepsOthers.refl _⟩, ⟨Below.refl _ _⟩⟩
          case round =>
            rename_i wr2
            obtain ⟨kk, hkk, rfl, hX4, hO4, hN4, hK4, hB4⟩ := hrel
            by_cases hlt2 : kk < y.f3.length
            · have hltz : ((kk : Int) < (y.f3.length : Int)) := by omega
              have p0 : (0 : Int) ≤ (kk : Int) := by omega
              have hbig := hyc.out.2.1
              obtain ⟨ad, e1, hx⟩ := Kd.at_int hyc.out (kk : Int) p0 hltz
              replace hx := ((hB3a.out.trans hB4.out).cell (World.block_lt_of_cell? w _ hx)).trans hx
              simp only [Int.toNat_natCast] at hx
              obtain ⟨hp1, hp2⟩ := inAll_at hya.out hlt2
              have hput := Kd.R_putg hO4.out (rd y.f3 (kk : Int) - 1) true
              obtain ⟨hcl, hfr⟩ := Kd.R_celln false hO4.out (rd y.f3 (kk : Int) - 1) (by omega) (by omega)
              rw [← setAll_take (marksF l0 ids pre) y.f3 hlt2] at hput
              have hc4 := hX4.out.cell
              have hputa := Aside0.mk hput
              clear hput
              generalize rd y.f3 (kk : Int) = p at hx hp1 hp2 hcl hfr hputa
              have e2 : (p - 1).toNat = p.toNat - 1 := by omega
              rw [e2] at hcl hfr hputa
              have u0 : 0 ≤ p - 1 := by omega
              have u1 : p - 1 < (l0.length : Int) := by omega
              have h1000'' := h1000'.out
              obtain ⟨eA, hEA⟩ : ∃ eA, (el x.val).1 = eA := ⟨_, rfl⟩
              rw [hEA] at e1 ⊢
              subst e1
              gi_wp2
              go_roundw
              case measure => simp only [intOf]; omega
              case rel =>
                exact ⟨kk + 1, by omega, congrArg (Value.int .i64) (by omega), ⟨hX4.out.kept hputa.out.2 (by simp; omega)⟩, ⟨hputa.out.1⟩, ⟨hN4.out.kept hputa.out.2 (by simp; omega)⟩, ⟨hK4.out.trans (KeepsOthers.setCell _ _ _)⟩, ⟨hB4.out.setCell (p := ⟨g, _, none⟩) hg _⟩⟩
            · obtain rfl : kk = y.f3.length := by omega
              have hltz : ¬ ((y.f3.length : Int) < (y.f3.length : Int)) := by omega
              rw [List.take_length, ← hma.out] at hO4
              gi_wp2
              exact ⟨hK4.out.from _, ⟨hB4.out, hN4.out.trans bN3.symm⟩, ⟨hX4.out, hO4.out, hN4.out⟩, hB3a.out.trans hB4.out⟩
        · rw [if_neg hb] at hm
          rw [Bool.eq_false_iff.mpr hb] at hcl0
          gi_wp2
          exact ⟨KeepsFrom.refl _ _, KB.refl _ _ _, ⟨bX3, by rw [hm]; exact hO3, bN3⟩, hB3⟩
      case done =>
        rintro D ys W hD rfl ⟨⟨bX3, hO3, bN3⟩, hB3⟩ hK
        have hc := bX3.cell
        go_wp2
        refine ⟨by simp, .inl ⟨_, _, rfl, run_takeDeferred hK, ?_⟩⟩
        refine ⟨_, results_tmp rfl _ _ _, _, rfl, ?_, hB3.trans (belowK_b (w := w) (Nat.le_refl _) W D _ _ (by omega) hK rfl rfl)⟩
        rw [← hr.out]
        exact R_putObj hO3 _ hK rfl
      case stop =>
        rintro D c pre W _ _ h _
        exact h.elim
end Go.Proofs.YtgopimjfoppkmaaDoor.D
