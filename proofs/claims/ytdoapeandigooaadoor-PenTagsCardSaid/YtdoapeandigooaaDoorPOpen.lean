/- pen.Open: what the machine's call comes to, as a plain function: a tag is written attribute by attribute, or there is none. -/
import Derived.Test.YtdoapeandigooaaDoorPBld
import Derived.Test.YtdoapeandigooaaDoorPPen
import Derived.Deep.RegionWith
import Derived.Test.YtdoapeandigooaaDoorP2
namespace Go.Proofs.YtdoapeandigooaaDoor.P
open Go.RowKit Go.Proofs.YtdoapeandigooaaDoorW.PrintWords Go.Proofs.YtdoapeandigooaaDoorW.PrintLast
set_option linter.unusedVariables false
set_option linter.unusedSimpArgs false

/-- An attribute's text. -/
def attrS (n e : ByteArray) : ByteArray := ((((⟨#[32]⟩ : ByteArray) ++ n) ++ (⟨#[61, 34]⟩ : ByteArray)) ++ e) ++ (⟨#[34]⟩ : ByteArray)
def pen_Open.l0 : Nat → List S48 → Int → List UInt8 → Option (ByteArray × Int)
  | 0, _, _, _ => none
  | k + 1, l, i, out => if i < (l.length : Int) then (if 0 ≤ i then (pen_Name.f (rd_T48 l i).f0).bind fun t => if t = true then ((pen_Good.f k (rd_T48 l i).f1).bind fun u => if u = true then ((refs_Escape.f k (rd_T48 l i).f1 true).bind fun e => if out.length + (attrS (rd_T48 l i).f0 e).size ≤ 140737488355328 then pen_Open.l0 k l (wrap64 (i + 1)) (out ++ (attrS (rd_T48 l i).f0 e).data.toList) else none) else some (⟨#[]⟩, 4)) else some (⟨#[]⟩, 4) else none)
    else (pen_twice.f k l).bind fun t => if t = true then some (⟨#[]⟩, 8) else if (l.length : Int) > 12 then some (⟨#[]⟩, 2) else if out.length + 1 ≤ 140737488355328 then some (⟨(out ++ [62]).toArray⟩, 0) else none
def pen_Open.f (k : Nat) (name : ByteArray) (l : List S48) : Option (ByteArray × Int) := (pen_Name.f name).bind fun t => if t = true then (if 1 + name.size ≤ 140737488355328 then pen_Open.l0 k l 0 (60 :: name.data.toList) else none) else some (⟨#[]⟩, 4)
theorem pen_Open.mono_l : ∀ k, (∀ y0 y1 y2, LeO (pen_Open.l0 k y0 y1 y2) (pen_Open.l0 (k + 1) y0 y1 y2))
  | 0 => fun _ _ _ r h => by simp [pen_Open.l0] at h
  | k + 1 => by
    have ih0 := pen_Open.mono_l k
    intro y0 y1 y2
    unfold pen_Open.l0
    repeat' first
      | (with_reducible exact ih0 _ _ _)
      | (with_reducible exact pen_Good.mono _ _)
      | (with_reducible exact refs_Escape.mono _ _ _)
      | (with_reducible exact pen_twice.mono _ _)
      | (with_reducible exact LeO.refl _)
      | (with_reducible exact LeO.none _)
      | (with_reducible refine LeO.ite ?_ ?_)
      | (with_reducible refine LeO.bind ?_ (fun _ => ?_))
theorem pen_Open.mono : ∀ a0 a1 k, LeO (pen_Open.f k a0 a1) (pen_Open.f (k + 1) a0 a1) := by
  intro a0 a1 k
  unfold pen_Open.f
  exact LeO.bind (LeO.refl _) fun _ => LeO.ite (LeO.ite (pen_Open.mono_l k _ _ _) (LeO.refl _)) (LeO.refl _)
theorem attrS_size (n e : ByteArray) : (attrS n e).size = 1 + n.size + 2 + e.size + 1 := by
  unfold attrS
  rw [ByteArray.size_append, ByteArray.size_append, ByteArray.size_append, ByteArray.size_append]; rfl
set_option maxHeartbeats 8000000 in
set_option maxRecDepth 100000 in
theorem pen_Open.calls (k : Nat) (a0 : ByteArray) (A1 : Option Addr) (c1 : Nat) (l1 : List S48) (r1 : ByteArray) (r2 : Int) (w : World) (hr1 : Kd.C k48 w A1 l1.length l1) (hc1 : l1.length ≤ c1) (h : pen_Open.f k a0 l1 = some (r1, r2)) (HG : Aside0 (Laid w)) :
    Calls Tryd.prog 32 #[.string a0, .slice A1 l1.length c1] w fun e w' => e = .returned (.tuple #[.string r1, .int .i64 r2]) ∧ Below w.heap.size w w' := by
  have hu := Tryd.underlying48
  have HR1 := Aside0.mk hr1
  have HC1 := Aside0.mk hc1
  clear hr1 hc1
  have HB := Aside0.mk (Below.refl w.heap.size w)
  unfold pen_Open.f at h
  obtain ⟨t, h1, h⟩ := Option.bind_eq_some_iff.mp h
  have hN := Aside0.mk (fun w HG => pen_Name.calls a0 t w h1 HG)
  clear h1
  cases t with
  | false =>
    rw [if_neg (by decide)] at h
    obtain ⟨rfl, rfl⟩ := Prod.mk.inj (Option.some.inj h)
    clear h
    go_enter Tryd.func32, Tryd.ntmps32
    go_wp2_with (first | (go_at_call 36; refine (hN.out _ HG).mono ?_; rintro e w1 ⟨rfl, hd⟩))
    go_ret2
    exact ⟨rfl, hd.below⟩
  | true =>
    rw [if_pos rfl] at h
    by_cases hsz : 1 + a0.size ≤ 140737488355328
    case neg => rw [if_neg hsz] at h; cases h
    rw [if_pos hsz] at h
    have H' := Aside0.mk h
    clear h
    have hc0 : (9223372036854775807 < 1 + a0.size) = False := eq_false (by omega)
    have HS := Aside0.mk hsz
    clear hsz
    go_enter Tryd.func32, Tryd.ntmps32
    go_wp2_with (first
      | (go_at_call 36; refine (hN.out _ HG).mono ?_; rintro e w1 ⟨rfl, ⟨nd, rfl⟩⟩; clear hN)
      | (go_at_call 53; refine ((Bld.new (w0 := w) (by repeat (first | exact HB.out | apply pw_below_drewN | apply below_alloc))).write ((⟨#[60]⟩ : ByteArray) ++ a0) (by repeat (first | exact HB.out | apply pw_below_drewN | apply below_alloc)) (by rw [ByteArray.size_append]; have := HS.out; have e1 : (⟨#[60]⟩ : ByteArray).size = 1 := rfl; rw [e1]; simp only [List.length_nil]; omega)).mono ?_; rintro e w2 ⟨rfl, hd2, hb2⟩; have HD := Aside0.mk hd2; clear HB; have HB := Aside0.mk hb2; clear hd2 hb2))
    go_loopg [17] k (fun kq v17 w' => ∃ (i : Int) (out : List UInt8), v17 = .int .i64 i ∧ Aside0 (pen_Open.l0 kq l1 i out = some (r1, r2)) ∧ Aside0 (kq ≤ k) ∧ Aside0 (Bld w w.heap.size out w') ∧ Aside0 (Below w.heap.size w w'))
    case atStart => exact ⟨0, _, rfl, H', ⟨Nat.le_refl _⟩, ⟨by simpa using HD.out⟩, HB⟩
    case round =>
      clear H' HD HB
      obtain ⟨i, out, rfl, HA, HK, HD, HB⟩ := hrel
      have HR := Aside0.mk (Below.refl wr.heap.size wr)
      cases gk with
      | zero => exact absurd HA.out (by simp [pen_Open.l0])
      | succ k1 =>
        have H := HA.out
        clear HA
        simp only [pen_Open.l0] at H
        by_cases c1 : i < (l1.length : Int)
        · rw [if_pos c1] at H
          have c1a : decide (i < (l1.length : Int)) = true := decide_eq_true c1
          by_cases c0 : 0 ≤ i
          case neg => rw [if_neg c0] at H; cases H
          rw [if_pos c0] at H
          obtain ⟨ad, e0, hx0, hx1⟩ := at_T48 HR1.out i c0 c1
          cases e0
          replace hx0 := (HB.out.cell (World.block_lt_of_cell? w _ hx0)).trans hx0
          replace hx1 := (HB.out.cell (World.block_lt_of_cell? w _ hx1)).trans hx1
          replace c0 := eq_true c0
          replace c1 := eq_true c1
          obtain ⟨t1, N1, H⟩ := Option.bind_eq_some_iff.mp H
          replace N1 := Aside0.mk N1
          cases t1 with
          | false =>
            rw [if_neg (by decide)] at H
            obtain ⟨rfl, rfl⟩ := Prod.mk.inj (Option.some.inj H)
            clear H
            go_wp2_with (first | ((with_reducible refine gate_dst (N := 8) rfl ?_); refine box_event ?hg (N := 8) ?hd (cs := #[.string (⟨#[]⟩ : ByteArray), .string (⟨#[]⟩ : ByteArray)]) (t := 48) ?hr ?_; (case hd => rfl); (case hg => rfl); (case hr => first | (go_simp; done) | (go_simp; rfl)); intro gb hg w12 hbox hb; have HB1 := Aside0.mk (below_step (by repeat (first | exact HB.out | apply pw_below_drewN | apply below_alloc)) hb); have BK := Aside0.mk hbox; have GE := Aside0.mk ((by rw [hg]; exact (below_size (by repeat (first | exact HB.out | apply pw_below_drewN | apply below_alloc)))) : w.heap.size ≤ gb); have GR := Aside0.mk ((by rw [hg]; exact (below_size (by repeat (first | exact HR.out | apply pw_below_drewN | apply below_alloc)))) : wr.heap.size ≤ gb); have HR1_ := Aside0.mk (below_step (by repeat (first | exact HR.out | apply pw_below_drewN | apply below_alloc)) hb); clear hb hbox hg; have hcz0 : w12.cell? ⟨gb, 0, none⟩ = some (.string (⟨#[]⟩ : ByteArray)) := (blk_cell BK.out 0).trans rfl; have hcz1 : w12.cell? ⟨gb, 1, none⟩ = some (.string (⟨#[]⟩ : ByteArray)) := (blk_cell BK.out 1).trans rfl; have hfz0 := blk_frozen BK.out 0; have hfz1 := blk_frozen BK.out 1) | (go_at_call 36; refine (pen_Name.calls _ _ _ N1.out ⟨Laid.below HG.out (by repeat (first | exact HB1.out | exact HB.out | apply pw_below_drewN | apply below_alloc | refine below_set ?_ GE.out))⟩).mono ?_; rintro e w13 ⟨rfl, ⟨nd13, rfl⟩⟩))
            go_ret2
            exact ⟨rfl, (by repeat (first | exact HB1.out | exact HB.out | apply pw_below_drewN | apply below_alloc | refine below_set ?_ GE.out))⟩
          | true =>
            rw [if_pos rfl] at H
            obtain ⟨t2, N2, H⟩ := Option.bind_eq_some_iff.mp H
            replace N2 := Aside0.mk N2
            cases t2 with
            | false =>
              rw [if_neg (by decide)] at H
              obtain ⟨rfl, rfl⟩ := Prod.mk.inj (Option.some.inj H)
              clear H
              go_wp2_with (first | ((with_reducible refine gate_dst (N := 8) rfl ?_); refine box_event ?hg (N := 8) ?hd (cs := #[.string (⟨#[]⟩ : ByteArray), .string (⟨#[]⟩ : ByteArray)]) (t := 48) ?hr ?_; (case hd => rfl); (case hg => rfl); (case hr => first | (go_simp; done) | (go_simp; rfl)); intro gb hg w12 hbox hb; have HB1 := Aside0.mk (below_step (by repeat (first | exact HB.out | apply pw_below_drewN | apply below_alloc)) hb); have BK := Aside0.mk hbox; have GE := Aside0.mk ((by rw [hg]; exact (below_size (by repeat (first | exact HB.out | apply pw_below_drewN | apply below_alloc)))) : w.heap.size ≤ gb); have GR := Aside0.mk ((by rw [hg]; exact (below_size (by repeat (first | exact HR.out | apply pw_below_drewN | apply below_alloc)))) : wr.heap.size ≤ gb); have HR1_ := Aside0.mk (below_step (by repeat (first | exact HR.out | apply pw_below_drewN | apply below_alloc)) hb); clear hb hbox hg; have hcz0 : w12.cell? ⟨gb, 0, none⟩ = some (.string (⟨#[]⟩ : ByteArray)) := (blk_cell BK.out 0).trans rfl; have hcz1 : w12.cell? ⟨gb, 1, none⟩ = some (.string (⟨#[]⟩ : ByteArray)) := (blk_cell BK.out 1).trans rfl; have hfz0 := blk_frozen BK.out 0; have hfz1 := blk_frozen BK.out 1) | (go_at_call 36; refine (pen_Name.calls _ _ _ N1.out ⟨Laid.below HG.out (by repeat (first | exact HB1.out | exact HB.out | apply pw_below_drewN | apply below_alloc | refine below_set ?_ GE.out))⟩).mono ?_; rintro e w13 ⟨rfl, ⟨nd13, rfl⟩⟩) | (go_at_call 38; refine (pen_Good.calls k1 _ _ _ N2.out ⟨Laid.below HG.out (by repeat (first | exact HB1.out | exact HB.out | apply pw_below_drewN | apply below_alloc | refine below_set ?_ GE.out))⟩).mono ?_; rintro e w14 ⟨rfl, ⟨nd14, rfl⟩⟩))
              go_ret2
              exact ⟨rfl, (by repeat (first | exact HB1.out | exact HB.out | apply pw_below_drewN | apply below_alloc | refine below_set ?_ GE.out))⟩
            | true =>
              rw [if_pos rfl] at H
              obtain ⟨t3, N3, H⟩ := Option.bind_eq_some_iff.mp H
              replace N3 := Aside0.mk N3
              by_cases c2 : out.length + (attrS (rd_T48 l1 i).f0 t3).size ≤ 140737488355328
              case neg => rw [if_neg c2] at H; cases H
              rw [if_pos c2] at H
              have H' := Aside0.mk H
              clear H
              have C2 := Aside0.mk c2
              rw [attrS_size] at c2
              have z1 : (9223372036854775807 < 1 + (rd_T48 l1 i).f0.size) = False := eq_false (by omega)
              have z2 : (9223372036854775807 < 1 + (rd_T48 l1 i).f0.size + 2) = False := eq_false (by omega)
              have z3 : (9223372036854775807 < 1 + (rd_T48 l1 i).f0.size + 2 + t3.size) = False := eq_false (by omega)
              have z4 : (9223372036854775807 < 1 + (rd_T48 l1 i).f0.size + 2 + t3.size + 1) = False := eq_false (by omega)
              clear c2
              go_wp2_with (first | ((with_reducible refine gate_dst (N := 8) rfl ?_); refine box_event ?hg (N := 8) ?hd (cs := #[.string (⟨#[]⟩ : ByteArray), .string (⟨#[]⟩ : ByteArray)]) (t := 48) ?hr ?_; (case hd => rfl); (case hg => rfl); (case hr => first | (go_simp; done) | (go_simp; rfl)); intro gb hg w12 hbox hb; have HB1 := Aside0.mk (below_step (by repeat (first | exact HB.out | apply pw_below_drewN | apply below_alloc)) hb); have BK := Aside0.mk hbox; have GE := Aside0.mk ((by rw [hg]; exact (below_size (by repeat (first | exact HB.out | apply pw_below_drewN | apply below_alloc)))) : w.heap.size ≤ gb); have GR := Aside0.mk ((by rw [hg]; exact (below_size (by repeat (first | exact HR.out | apply pw_below_drewN | apply below_alloc)))) : wr.heap.size ≤ gb); have HR1_ := Aside0.mk (below_step (by repeat (first | exact HR.out | apply pw_below_drewN | apply below_alloc)) hb); clear hb hbox hg; have hcz0 : w12.cell? ⟨gb, 0, none⟩ = some (.string (⟨#[]⟩ : ByteArray)) := (blk_cell BK.out 0).trans rfl; have hcz1 : w12.cell? ⟨gb, 1, none⟩ = some (.string (⟨#[]⟩ : ByteArray)) := (blk_cell BK.out 1).trans rfl; have hfz0 := blk_frozen BK.out 0; have hfz1 := blk_frozen BK.out 1) | (go_at_call 36; refine (pen_Name.calls _ _ _ N1.out ⟨Laid.below HG.out (by repeat (first | exact HB1.out | exact HB.out | apply pw_below_drewN | apply below_alloc | refine below_set ?_ GE.out))⟩).mono ?_; rintro e w13 ⟨rfl, ⟨nd13, rfl⟩⟩) | (go_at_call 38; refine (pen_Good.calls k1 _ _ _ N2.out ⟨Laid.below HG.out (by repeat (first | exact HB1.out | exact HB.out | apply pw_below_drewN | apply below_alloc | refine below_set ?_ GE.out))⟩).mono ?_; rintro e w14 ⟨rfl, ⟨nd14, rfl⟩⟩))
              have HB10 := Aside0.mk (show Below w.heap.size w (World.drewN (World.setCell (World.setCell w12 ⟨gb, 0, none⟩ (Value.string (rd_T48 l1 i).f0)) ⟨gb, 1, none⟩ (Value.string (rd_T48 l1 i).f1)) (nd13 + nd14)) from by repeat (first | exact HB1.out | apply pw_below_drewN | refine below_set ?_ GE.out))
              have HR10 := Aside0.mk (show Below wr.heap.size wr (World.drewN (World.setCell (World.setCell w12 ⟨gb, 0, none⟩ (Value.string (rd_T48 l1 i).f0)) ⟨gb, 1, none⟩ (Value.string (rd_T48 l1 i).f1)) (nd13 + nd14)) from by repeat (first | exact HR1_.out | apply pw_below_drewN | refine below_set ?_ GR.out))
              generalize hW : World.drewN (World.setCell (World.setCell w12 _ _) _ _) _ = W10 at HB10 HR10 ⊢
              have k0 : W10.cell? ⟨gb, 0, none⟩ = some (Value.string (rd_T48 l1 i).f0) := by
                rw [← hW]
                exact (World.cell?_setCell_other _ _ _ _ (by intro z; injection z with _ z; cases z)).trans (World.cell?_setCell_same _ _ _ hcz0)
              have k1_ : W10.cell? ⟨gb, 1, none⟩ = some (Value.string (rd_T48 l1 i).f1) := by
                rw [← hW]
                exact World.cell?_setCell_same _ _ _ ((World.cell?_setCell_other _ _ _ _ (by intro z; injection z with _ z; cases z)).trans hcz1)
              clear hW
              go_region_with (first | (go_at_call 54; refine (refs_Escape.calls k1 _ _ _ _ N3.out ⟨Laid.below HG.out (by repeat (first | exact HB10.out | apply pw_below_drewN | apply below_drew1))⟩).mono ?_; rintro e w15 ⟨rfl, hb15⟩; have HB3 := Aside0.mk (below_step (by repeat (first | exact HB10.out | apply pw_below_drewN | apply below_drew1)) hb15); have HR3 := Aside0.mk (below_step (by repeat (first | exact HR10.out | apply pw_below_drewN | apply below_drew1)) hb15); have kk0 := pw_cell_below hb15 (show World.cell? _ ⟨gb, 0, none⟩ = some (Value.string (rd_T48 l1 i).f0) from k0); clear hb15) | (go_at_call 53; refine ((HD.out.below (by repeat (first | exact HR3.out | apply pw_below_drewN))).write (attrS (rd_T48 l1 i).f0 t3) (by repeat (first | exact HB3.out | apply pw_below_drewN)) C2.out).mono ?_; rintro e w16 ⟨rfl, hd16, hb16⟩; have HB4 := Aside0.mk hb16; have HD4 := Aside0.mk hd16; clear hd16 hb16))
              all_goals
                go_wp2
                go_roundg k1
                (case measure => have := HK.out; omega)
                (case rel => exact ⟨_, _, rfl, H', ⟨by have := HK.out; omega⟩, HD4, HB4⟩)
        · rw [if_neg c1] at H
          have c1a : decide (i < (l1.length : Int)) = false := decide_eq_false c1
          clear c1
          have HRl := Aside0.mk (Kd.C_below HR1.out HB.out)
          obtain ⟨t1, N1, H⟩ := Option.bind_eq_some_iff.mp H
          replace N1 := Aside0.mk N1
          cases t1 with
          | true =>
            rw [if_pos rfl] at H
            obtain ⟨rfl, rfl⟩ := Prod.mk.inj (Option.some.inj H)
            clear H
            go_wp2_with (first | (go_at_call 55; refine (pen_twice.calls k1 _ _ _ _ _ HRl.out HC1.out N1.out ⟨Laid.below HG.out HB.out⟩).mono ?_; rintro e w13 ⟨rfl, ⟨nd13, rfl⟩⟩))
            go_ret2
            exact ⟨rfl, by repeat (first | exact HB.out | apply pw_below_drewN)⟩
          | false =>
            rw [if_neg (by decide)] at H
            by_cases c2 : (l1.length : Int) > 12
            · rw [if_pos c2] at H
              obtain ⟨rfl, rfl⟩ := Prod.mk.inj (Option.some.inj H)
              clear H
              go_wp2_with (first | (go_at_call 55; refine (pen_twice.calls k1 _ _ _ _ _ HRl.out HC1.out N1.out ⟨Laid.below HG.out HB.out⟩).mono ?_; rintro e w13 ⟨rfl, ⟨nd13, rfl⟩⟩))
              go_ret2
              exact ⟨rfl, by repeat (first | exact HB.out | apply pw_below_drewN)⟩
            · rw [if_neg c2] at H
              by_cases c3 : out.length + 1 ≤ 140737488355328
              case neg => rw [if_neg c3] at H; cases H
              rw [if_pos c3] at H
              obtain ⟨rfl, rfl⟩ := Prod.mk.inj (Option.some.inj H)
              clear H
              have C3 := Aside0.mk c3
              clear c3
              go_wp2_with (first | (go_at_call 55; refine (pen_twice.calls k1 _ _ _ _ _ HRl.out HC1.out N1.out ⟨Laid.below HG.out HB.out⟩).mono ?_; rintro e w13 ⟨rfl, ⟨nd13, rfl⟩⟩) | (go_at_call 56; refine (Bld.byte (HD.out.drewN _) 62 (by repeat (first | exact HB.out | apply pw_below_drewN)) C3.out).mono ?_; rintro e w14 ⟨rfl, hd14, hb14⟩) | (go_at_call 57; refine (Bld.string hd14 hb14).mono ?_; rintro e w15 ⟨rfl, _, hb15⟩))
              go_ret2
              exact ⟨rfl, hb15⟩
end Go.Proofs.YtdoapeandigooaaDoor.P
