/- What the code of this statement does, over values that stand for data: an executor of the model's code, that it is sound, and contracts of functions: part 5. No condition is added to the statement. -/
import Derived.Test.YtpbpabadbipfdaaGreatDoorME4
import Derived.ChangeArms
import Derived.SizedLaws
import Derived.Test.YtpbpabadbipfdaaGreatDoorRows
import Derived.ProofKit
import Derived.LaidMore
import Derived.OpenShut
import Derived.Stop.Joined
import Derived.Deep.Strs
import Derived.Shelf.Vars
set_option linter.unusedVariables false
set_option linter.unusedSimpArgs false
section
namespace Go.Proofs.YtpbpabadbipfdaaGreatDoor.AX
open Go AXP
set_option maxRecDepth 100000
theorem vcLargeB2 (k : Nat) (d : Int) (l : List Nd) (m i : Int) (a : List At) (ma j n b0 b1 : Int) (b2 : ByteArray) (b3 : List At) (b4 : ByteArray) (b5 : List Nd) (K : Ex → List AV → List Blk → Prop) : (bodyA (cxLarge k) (LL Tryz.f12 [lsLarge k, lsLarge2]) Tryz.f12.ntmps (loopAt Tryz.f12 1).1 (loopAt Tryz.f12 1).2 lsLarge2.keep lsLarge2.left K [.ptr 0 0, .int .i64 d, .ptr 1 0, .row .node l, .int .i64 m, .int .i64 i, .row .attr a, .int .i64 ma, .int .i64 j] [.box [.int .i64 n], .box [.int .i64 b0, .int .i64 b1, .str b2, .row .attr b3, .str b4, .row .node b5]]) = (
Br (decide (j < ma))
  (Rq ((0 : Int) ≤ j ∧ j < (↑a.length : Int))
    (Br (decide ((↑(rd Ty.attr a j).1.size : Int) > (100 : Int)))
      (Gv ((rd Ty.attr a j).1.size ≤ maxSl)
        (K Ex.ret
          [AV.ptr (0 : Nat) (0 : Nat), AV.int IntKind.i64 d, AV.ptr ((0 : Nat) + (1 : Nat)) (0 : Nat), AV.row Ty.node l,
            AV.int IntKind.i64 m, AV.int IntKind.i64 i, AV.bool true]
          [Blk.box [AV.int IntKind.i64 n],
            Blk.box
              [AV.int IntKind.i64 b0, AV.int IntKind.i64 b1, AV.str b2, AV.row Ty.attr b3, AV.str b4,
                AV.row Ty.node b5]]))
      (Gv ((rd Ty.attr a j).1.size ≤ maxSl)
        (Gv ((rd Ty.attr a j).2.size ≤ maxSl)
          (Br (decide ((↑(rd Ty.attr a j).2.size : Int) > (2000 : Int)))
            (K Ex.ret
              [AV.ptr (0 : Nat) (0 : Nat), AV.int IntKind.i64 d, AV.ptr ((0 : Nat) + (1 : Nat)) (0 : Nat),
                AV.row Ty.node l, AV.int IntKind.i64 m, AV.int IntKind.i64 i, AV.bool true]
              [Blk.box [AV.int IntKind.i64 n],
                Blk.box
                  [AV.int IntKind.i64 b0, AV.int IntKind.i64 b1, AV.str b2, AV.row Ty.attr b3, AV.str b4,
                    AV.row Ty.node b5]])
            (K Ex.norm
              [AV.ptr (0 : Nat) (0 : Nat), AV.int IntKind.i64 d, AV.ptr ((0 : Nat) + (1 : Nat)) (0 : Nat),
                AV.row Ty.node l, AV.int IntKind.i64 m, AV.int IntKind.i64 i, AV.row Ty.attr a, AV.int IntKind.i64 ma,
                AV.int IntKind.i64 (IntKind.i64.wrap (j + (1 : Int)))]
              [Blk.box [AV.int IntKind.i64 n],
                Blk.box
                  [AV.int IntKind.i64 b0, AV.int IntKind.i64 b1, AV.str b2, AV.row Ty.attr b3, AV.str b4,
                    AV.row Ty.node b5]]))))))
  (K (Ex.exit (2 : Nat))
    [AV.ptr (0 : Nat) (0 : Nat), AV.int IntKind.i64 d, AV.ptr ((0 : Nat) + (1 : Nat)) (0 : Nat), AV.row Ty.node l,
      AV.int IntKind.i64 m, AV.int IntKind.i64 i, AV.any]
    [Blk.box [AV.int IntKind.i64 n],
      Blk.box
        [AV.int IntKind.i64 b0, AV.int IntKind.i64 b1, AV.str b2, AV.row Ty.attr b3, AV.str b4, AV.row Ty.node b5]])) := by kernel_rfl
theorem vcLargeB (k : Nat) (d : Int) (l : List Nd) (m i n : Int) (K : Ex → List AV → List Blk → Prop) : (bodyA (cxLarge k) (LL Tryz.f12 [lsLarge k, lsLarge2]) Tryz.f12.ntmps (loopAt Tryz.f12 0).1 (loopAt Tryz.f12 0).2 (lsLarge k).keep (lsLarge k).left K [.ptr 0 0, .int .i64 d, .row .node l, .int .i64 m, .int .i64 i] [.box [.int .i64 n]]) = (
Br (decide (i < m))
  (Rq ((0 : Int) ≤ i ∧ i < (↑l.length : Int))
    (Br (decide (IntKind.i64.wrap (n - (1 : Int)) < (0 : Int)))
      (K Ex.ret [AV.ptr (0 : Nat) (0 : Nat), AV.bool true]
        [Blk.box [AV.int IntKind.i64 (IntKind.i64.wrap (n - (1 : Int)))]])
      (Br (decide ((↑(rd Ty.node l i).4.length : Int) > (40 : Int)))
        (Gv ((rd Ty.node l i).4.length ≤ maxSl)
          (K Ex.ret [AV.ptr (0 : Nat) (0 : Nat), AV.bool true]
            [Blk.box [AV.int IntKind.i64 (IntKind.i64.wrap (n - (1 : Int)))]]))
        (Br (decide ((↑(rd Ty.node l i).5.size : Int) > (5000 : Int)))
          (Gv ((rd Ty.node l i).4.length ≤ maxSl)
            (Gv ((rd Ty.node l i).5.size ≤ maxSl)
              (K Ex.ret [AV.ptr (0 : Nat) (0 : Nat), AV.bool true]
                [Blk.box [AV.int IntKind.i64 (IntKind.i64.wrap (n - (1 : Int)))]])))
          (Gv ((rd Ty.node l i).4.length ≤ maxSl)
            (Gv ((rd Ty.node l i).5.size ≤ maxSl)
              (Gv ((rd Ty.node l i).3.size ≤ maxSl)
                (Br (decide ((↑(rd Ty.node l i).3.size : Int) > (100 : Int)))
                  (K Ex.ret [AV.ptr (0 : Nat) (0 : Nat), AV.bool true]
                    [Blk.box [AV.int IntKind.i64 (IntKind.i64.wrap (n - (1 : Int)))]])
                  (Rq ((16 : Int) ≠ (0 : Int))
                    (Gv ((rd Ty.node l i).5.size ≤ maxSl)
                      (Gv ((rd Ty.node l i).4.length ≤ maxSl)
                        (Gv ((rd Ty.node l i).4.length ≤ maxSl)
                          (Rq
                            ((↑(rd Ty.node l i).4.length : Int) = (↑(rd Ty.node l i).4.length : Int) ∧
                              (0 : Int) = (0 : Int) ∧ (rd Ty.node l i).4.length ≤ maxSl)
                            (Br (attBad (rd Ty.node l i).4)
                              (K Ex.ret [AV.ptr (0 : Nat) (0 : Nat), AV.bool true]
                                [Blk.box
                                    [AV.int IntKind.i64
                                        (IntKind.i64.wrap
                                          (IntKind.i64.wrap
                                              (IntKind.i64.wrap (n - (1 : Int)) -
                                                IntKind.i64.wrap ((↑(rd Ty.node l i).5.size : Int).tdiv (16 : Int))) -
                                            (↑(rd Ty.node l i).4.length : Int)))]])
                              (Rq
                                (szNds (rd Ty.node l i).6 < k ∧
                                  (0 : Int) ≤ IntKind.i64.wrap (d + (1 : Int)) ∧
                                    IntKind.i64.wrap (d + (1 : Int)) ≤ (61 : Int) ∧
                                      (-354 : Int) ≤
                                          IntKind.i64.wrap
                                            (IntKind.i64.wrap
                                                (IntKind.i64.wrap (n - (1 : Int)) -
                                                  IntKind.i64.wrap ((↑(rd Ty.node l i).5.size : Int).tdiv (16 : Int))) -
                                              (↑(rd Ty.node l i).4.length : Int)) ∧
                                        IntKind.i64.wrap
                                            (IntKind.i64.wrap
                                                (IntKind.i64.wrap (n - (1 : Int)) -
                                                  IntKind.i64.wrap ((↑(rd Ty.node l i).5.size : Int).tdiv (16 : Int))) -
                                              (↑(rd Ty.node l i).4.length : Int)) ≤
                                          (2000 : Int))
                                (Br
                                  (lgB (IntKind.i64.wrap (d + (1 : Int))) (rd Ty.node l i).6
                                    (IntKind.i64.wrap
                                      (IntKind.i64.wrap
                                          (IntKind.i64.wrap (n - (1 : Int)) -
                                            IntKind.i64.wrap ((↑(rd Ty.node l i).5.size : Int).tdiv (16 : Int))) -
                                        (↑(rd Ty.node l i).4.length : Int))))
                                  (K Ex.ret [AV.ptr (0 : Nat) (0 : Nat), AV.bool true]
                                    [Blk.box
                                        [AV.int IntKind.i64
                                            (lgN (IntKind.i64.wrap (d + (1 : Int))) (rd Ty.node l i).6
                                              (IntKind.i64.wrap
                                                (IntKind.i64.wrap
                                                    (IntKind.i64.wrap (n - (1 : Int)) -
                                                      IntKind.i64.wrap
                                                        ((↑(rd Ty.node l i).5.size : Int).tdiv (16 : Int))) -
                                                  (↑(rd Ty.node l i).4.length : Int))))]])
                                  (K Ex.norm
                                    [AV.ptr (0 : Nat) (0 : Nat), AV.int IntKind.i64 d, AV.row Ty.node l,
                                      AV.int IntKind.i64 m, AV.int IntKind.i64 (IntKind.i64.wrap (i + (1 : Int)))]
                                    [Blk.box
                                        [AV.int IntKind.i64
                                            (lgN (IntKind.i64.wrap (d + (1 : Int))) (rd Ty.node l i).6
                                              (IntKind.i64.wrap
                                                (IntKind.i64.wrap
                                                    (IntKind.i64.wrap (n - (1 : Int)) -
                                                      IntKind.i64.wrap
                                                        ((↑(rd Ty.node l i).5.size : Int).tdiv (16 : Int))) -
                                                  (↑(rd Ty.node l i).4.length : Int))))]])))))))))))))))))
  (K (Ex.exit (0 : Nat)) [AV.ptr (0 : Nat) (0 : Nat), AV.any] [Blk.box [AV.int IntKind.i64 n]])) := by kernel_rfl
theorem vcLargeF (k : Nat) (l : List Nd) (d n : Int) (Q : List AV → List Blk → List Blk → Prop) : (funA (cxLarge k) (LL Tryz.f12 [lsLarge k, lsLarge2]) Tryz.f12 [.row .node l, .ptr 0 0, .int .i64 d] [.box [.int .i64 n]] [] Q) = (
Br (decide (d > (60 : Int))) (Q [AV.bool true] [Blk.box [AV.int IntKind.i64 n]] [])
  (Gv (l.length ≤ maxSl)
    (Br (decide ((↑l.length : Int) > (500 : Int))) (Q [AV.bool true] [Blk.box [AV.int IntKind.i64 n]] [])
      (Gv (l.length ≤ maxSl)
        (Rq
          ((↑l.length : Int) = (↑l.length : Int) ∧
            (0 : Int) = (0 : Int) ∧
              l.length ≤ maxSl ∧
                szNds l < k + (1 : Nat) ∧ (0 : Int) ≤ d ∧ d ≤ (60 : Int) ∧ (-354 : Int) ≤ n ∧ n ≤ (2000 : Int))
          (Br (lpB d l n) (Q [AV.bool true] [Blk.box [AV.int IntKind.i64 (lpN d l n)]] [])
            (Q [AV.bool (decide (lpN d l n < (0 : Int)))] [Blk.box [AV.int IntKind.i64 (lpN d l n)]] []))))))) := by kernel_rfl
end Go.Proofs.YtpbpabadbipfdaaGreatDoor.AX
end
section
namespace Go.Proofs.YtpbpabadbipfdaaGreatDoor.AXP
open Go Go.Proofs.YtpbpabadbipfdaaGreatDoor.AX
def badNd (x : Nd) (n : Int) : Bool := decide (n - 1 < 0) || decide ((x.attrs.length : Int) > 40) || decide ((x.text.size : Int) > 5000) || decide ((x.name.size : Int) > 100)
def restNd (x : Nd) (n : Int) : Int := n - 1 - (x.text.size : Int).tdiv 16 - x.attrs.length
theorem lgNd_eq (d : Int) (x : Nd) (n : Int) : lgNd d x n = if badNd x n = true then (true, n - 1) else if attBad x.attrs = true then (true, restNd x n) else lgNds (d + 1) x.kids (restNd x n) := by
  cases x; rw [lgNd]; rfl
theorem lg_pair (d : Int) (l : List Nd) (n : Int) : lgNds d l n = (lgB d l n, lgN d l n) := rfl
theorem tdiv16 {t : ByteArray} (h : (t.size : Int) ≤ 5000) : 0 ≤ (t.size : Int).tdiv 16 ∧ (t.size : Int).tdiv 16 ≤ 312 := by
  rw [Int.tdiv_eq_ediv_of_nonneg (by omega)]; omega
theorem badNd_no {x : Nd} {n : Int} (h : badNd x n = false) : 0 ≤ n - 1 ∧ (x.attrs.length : Int) ≤ 40 ∧ (x.text.size : Int) ≤ 5000 ∧ (x.name.size : Int) ≤ 100 := by
  unfold badNd at h
  simp only [Bool.or_eq_false_iff, decide_eq_false_iff_not] at h
  omega
mutual
theorem lgNd_bd : ∀ (x : Nd) (d n : Int), -354 ≤ n → n ≤ 2000 → -355 ≤ (lgNd d x n).2 ∧ (lgNd d x n).2 ≤ 2000 ∧ ((lgNd d x n).1 = false → 0 ≤ (lgNd d x n).2 ∧ (wtNd x : Int) + (lgNd d x n).2 ≤ n)
  | ⟨k, s, m, a, t, c⟩, d, n, h1, h2 => by
    rw [lgNd_eq]
    cases hb : badNd ⟨k, s, m, a, t, c⟩ n with
    | true => simp only [if_true]; exact ⟨by omega, by omega, fun h => nomatch h⟩
    | false =>
      have hn := badNd_no hb
      have ht := tdiv16 hn.2.2.1
      dsimp only at hn ht
      have hr : restNd ⟨k, s, m, a, t, c⟩ n = n - 1 - (t.size : Int).tdiv 16 - a.length := rfl
      simp only [Bool.false_eq_true, if_false]
      split
      · exact ⟨by omega, by omega, fun h => nomatch h⟩
      · rw [hr]
        have h3 := lgLoop_bd c (d + 1) (n - 1 - (t.size : Int).tdiv 16 - a.length) (by omega) (by omega)
        show -355 ≤ (lgNds (d + 1) c _).2 ∧ _ ∧ ((lgNds (d + 1) c _).1 = false → _)
        unfold lgNds topOf
        split
        · exact ⟨by omega, by omega, fun h => nomatch h⟩
        · split
          · exact ⟨by omega, by omega, fun h => nomatch h⟩
          · rename_i h4
            have h5 := h3.2.2 (by simpa using h4)
            refine ⟨by omega, by omega, fun h => ?_⟩
            have h : ¬ (lgLoop (d + 1) c (n - 1 - (t.size : Int).tdiv 16 - a.length)).2 < 0 := by simpa using h
            rw [wtNd]
            dsimp only
            omega
theorem lgLoop_bd : ∀ (l : List Nd) (d n : Int), -354 ≤ n → n ≤ 2000 → -355 ≤ (lgLoop d l n).2 ∧ (lgLoop d l n).2 ≤ 2000 ∧ ((lgLoop d l n).1 = false → -354 ≤ (lgLoop d l n).2 ∧ (wtNds l : Int) + (lgLoop d l n).2 ≤ n)
  | [], d, n, h1, h2 => by rw [lgLoop]; exact ⟨by omega, by omega, fun _ => ⟨h1, by simp [wtNds]⟩⟩
  | x :: l, d, n, h1, h2 => by
    have h3 := lgNd_bd x d n h1 h2
    rw [lgLoop]
    split
    · exact ⟨h3.1, h3.2.1, fun h => nomatch h⟩
    · rename_i h4
      have h5 := h3.2.2 (by simpa using h4)
      have h6 := lgLoop_bd l d (lgNd d x n).2 (by omega) (by omega)
      refine ⟨h6.1, h6.2.1, fun h => ?_⟩
      have h7 := h6.2.2 h
      rw [wtNds]
      omega
end
theorem lgNds_bd (l : List Nd) (d n : Int) (h1 : -354 ≤ n) (h2 : n ≤ 2000) : -355 ≤ lgN d l n ∧ lgN d l n ≤ 2000 ∧ (lgB d l n = false → 0 ≤ lgN d l n ∧ (wtNds l : Int) + lgN d l n ≤ n) := by
  have h3 := lgLoop_bd l d n h1 h2
  unfold lgN lgB lgNds topOf
  split
  · exact ⟨by omega, by omega, fun h => nomatch h⟩
  · split
    · exact ⟨by omega, by omega, fun h => nomatch h⟩
    · rename_i h4
      have h5 := h3.2.2 (by simpa using h4)
      refine ⟨by omega, by omega, fun h => ?_⟩
      have h : ¬ (lgLoop d l n).2 < 0 := by simpa using h
      dsimp only
      omega
theorem lgLoop_snoc : ∀ {a : List Nd} {x : Nd} {d n : Int}, (lgLoop d a n).1 = false → lgLoop d (a ++ [x]) n = lgNd d x (lgLoop d a n).2
  | [], x, d, n, _ => by
    simp only [List.nil_append, lgLoop]
    split
    · rename_i h; rw [← h]
    · rename_i h; have h : (lgNd d x n).1 = false := by simpa using h
      rw [← h]
  | y :: a, x, d, n, h => by
    rw [lgLoop] at h
    rw [List.cons_append, lgLoop, lgLoop]
    split at h
    · cases h
    · rename_i h2
      rw [if_neg h2, if_neg h2]
      exact lgLoop_snoc h
theorem lgLoop_stop : ∀ {a b : List Nd} {x : Nd} {d n : Int}, (lgLoop d a n).1 = false → (lgNd d x (lgLoop d a n).2).1 = true → lgLoop d (a ++ x :: b) n = lgNd d x (lgLoop d a n).2
  | [], b, x, d, n, _, h => by
    rw [lgLoop] at h ⊢
    rw [List.nil_append, lgLoop, if_pos h, ← h]
  | y :: a, b, x, d, n, h, h3 => by
    rw [lgLoop] at h h3 ⊢
    rw [List.cons_append, lgLoop]
    split at h
    · cases h
    · rename_i h2
      rw [if_neg h2] at h3 ⊢
      rw [if_neg h2]
      exact lgLoop_stop h h3
theorem attBad_take {a : List At} {j : Nat} (h : j < a.length) : attBad (a.take (j + 1)) = (attBad (a.take j) || attBad1 a[j]) := by
  unfold attBad; rw [← List.take_append_getElem h, List.any_append]; simp
theorem attBad_of {a : List At} {j : Nat} (h : j < a.length) (hb : attBad1 a[j] = true) : attBad a = true := by
  unfold attBad; rw [List.any_eq_true]; exact ⟨_, List.getElem_mem h, hb⟩
theorem large_wt {l : List Nd} (h : largeB l = false) : wtNds l ≤ 250 := by
  have := (lgNds_bd l 1 250 (by decide) (by decide)).2.2 h
  omega
theorem largeM_wt {m : Int} {l : List Nd} (h0 : -354 ≤ m) (h1 : m ≤ 2000) (h : largeM m l = false) : (wtNds l : Int) ≤ m := by
  have := (lgNds_bd l 1 m h0 h1).2.2 h
  omega
end Go.Proofs.YtpbpabadbipfdaaGreatDoor.AXP
namespace Go.Proofs.YtpbpabadbipfdaaGreatDoor.AX
open Go Go.RowKit AXP
set_option maxRecDepth 100000
theorem lgNd_a {d n : Int} {x : Nd} (h : badNd x n = true) : lgNd d x n = (true, n - 1) := by rw [lgNd_eq, if_pos h]
theorem lgNd_b {d n : Int} {x : Nd} (h : badNd x n = false) (h' : attBad x.attrs = true) : lgNd d x n = (true, restNd x n) := by rw [lgNd_eq, if_neg (by rw [h]; decide), if_pos h']
theorem lgNd_c {d n : Int} {x : Nd} (h : badNd x n = false) (h' : attBad x.attrs = false) : lgNd d x n = (lgB (d + 1) x.kids (restNd x n), lgN (d + 1) x.kids (restNd x n)) := by rw [lgNd_eq, if_neg (by rw [h]; decide), if_neg (by rw [h']; decide)]; rfl
theorem large_sum2 (k : Nat) : SumOK (cxLarge k) (LL Tryz.f12 [lsLarge k, lsLarge2]) Tryz.f12.ntmps (loopAt Tryz.f12 1).1 (loopAt Tryz.f12 1).2 lsLarge2 := by
  intro vs bs K hs
  unfold lsLarge2 at hs
  simp only at hs
  split at hs
  case h_2 => exact hs.elim
  rename_i d l m i a ma j n b0 b1 b2 b3 b4 b5
  obtain ⟨⟨rfl, rfl, hl⟩, h⟩ := hs
  refine sum_for (fun j => attBad (a.take j) = false) (fun j => [.ptr 0 0, .int .i64 d, .ptr 1 0, .row .node l, .int .i64 m, .int .i64 i, .row .attr a, .int .i64 a.length, .int .i64 j]) (fun _ => [.box [.int .i64 n], .box [.int .i64 b0, .int .i64 b1, .str b2, .row .attr b3, .str b4, .row .node b5]]) a.length (fun j hj hp R hR => ?_) (fun hp R => ?_) rfl
  · refine Eq.mpr (vcLargeB2 k d l m i a a.length j n b0 b1 b2 b3 b4 b5 _) ⟨fun _ => ⟨⟨by omega, by omega⟩, ?_⟩, fun h => lt_of h hj⟩
    rw [rd_at hj]
    refine ⟨fun h1 => ⟨fun _ => h.yes (attBad_of hj ?_)⟩, fun h1 => ⟨fun _ => ⟨fun _ => ⟨fun h2 => h.yes (attBad_of hj ?_), fun h2 => ?_⟩⟩⟩⟩
    · unfold attBad1; rw [h1]; rfl
    · unfold attBad1; rw [h2]; simp
    · rw [wrap_succ hj hl]
      refine hR ?_
      rw [attBad_take hj, hp]
      unfold attBad1; rw [h1, h2]; rfl
  · refine Eq.mpr (vcLargeB2 k d l m i a a.length a.length n b0 b1 b2 b3 b4 b5 _) ⟨fun h => not_lt_self h, fun _ => h.no ?_⟩
    rw [List.take_length] at hp; exact hp
theorem large_sum (k : Nat) : SumOK (cxLarge k) (LL Tryz.f12 [lsLarge k, lsLarge2]) Tryz.f12.ntmps (loopAt Tryz.f12 0).1 (loopAt Tryz.f12 0).2 (lsLarge k) := by
  intro vs bs K hs
  unfold lsLarge at hs
  simp only at hs
  split at hs
  case h_2 => exact hs.elim
  rename_i d l m i n
  obtain ⟨⟨rfl, rfl, hl, hk, hd0, hd1, hn0, hn1⟩, h⟩ := hs
  refine sum_for (fun i => lpB d (l.take i) n = false) (fun i => [.ptr 0 0, .int .i64 d, .row .node l, .int .i64 l.length, .int .i64 i]) (fun i => [.box [.int .i64 (lpN d (l.take i) n)]]) l.length (fun i hi hp R hR => ?_) (fun hp R => ?_) rfl
  · have hbd := lgLoop_bd (l.take i) d n hn0 hn1
    obtain ⟨hb0, hb1, hb2⟩ := hbd
    have hb2 := (hb2 hp).1
    obtain ⟨n', hn'⟩ : ∃ n', n' = lpN d (l.take i) n := ⟨_, rfl⟩
    have hb1 : n' ≤ 2000 := by rw [hn']; exact hb1
    have hb2 : -354 ≤ n' := by rw [hn']; exact hb2
    have hsp : l = l.take i ++ l[i] :: l.drop (i + 1) := by rw [← List.drop_eq_getElem_cons hi, List.take_append_drop]
    have stop : ∀ v, lgNd d l[i] n' = (true, v) → K .ret [.ptr 0 0, .bool true] [.box [.int .i64 v]] := by
      intro v hv
      have h1 := lgLoop_stop (b := l.drop (i + 1)) (x := l[i]) hp (by rw [← lpN.eq_1, ← hn', hv])
      rw [← hsp, ← lpN.eq_1, ← hn', hv] at h1
      have := h.yes (by unfold lpB; rw [h1])
      rw [show lpN d l n = v by unfold lpN; rw [h1]] at this
      exact this
    rw [← hn']
    refine Eq.mpr (vcLargeB k d l l.length i n' _) ⟨fun _ => ⟨⟨by omega, by omega⟩, ?_⟩, fun h => lt_of h hi⟩
    have hw1 : IntKind.i64.wrap (n' - 1) = n' - 1 := by rw [wrap_id'] <;> omega
    rw [rd_nd hi, hw1]
    refine ⟨fun h1 => stop _ (lgNd_a (by unfold badNd; rw [h1]; rfl)), fun h1 => ⟨fun h2 => ⟨fun _ => stop _ (lgNd_a (by unfold badNd; rw [h2]; simp))⟩, fun h2 => ⟨fun h3 => ⟨fun _ => ⟨fun _ => stop _ (lgNd_a (by unfold badNd; rw [h3]; simp))⟩⟩, fun h3 => ⟨fun _ => ⟨fun _ => ⟨fun _ => ⟨fun h4 => stop _ (lgNd_a (by unfold badNd; rw [h4]; simp)), fun h4 => ⟨by decide, ⟨fun _ => ⟨fun _ => ⟨fun hm => ⟨⟨rfl, rfl, hm⟩, ?_⟩⟩⟩⟩⟩⟩⟩⟩⟩⟩⟩⟩
    have hbad : badNd l[i] n' = false := by unfold badNd; rw [h1, h2, h3, h4]; rfl
    have hno := badNd_no hbad
    have ht := tdiv16 hno.2.2.1
    have hrest : restNd l[i] n' = n' - 1 - (l[i].text.size : Int).tdiv 16 - l[i].attrs.length := rfl
    have hw2 : IntKind.i64.wrap ((l[i].text.size : Int).tdiv 16) = (l[i].text.size : Int).tdiv 16 := by rw [wrap_id'] <;> omega
    have hw3 : IntKind.i64.wrap (n' - 1 - (l[i].text.size : Int).tdiv 16) = n' - 1 - (l[i].text.size : Int).tdiv 16 := by rw [wrap_id'] <;> omega
    have hw4 : IntKind.i64.wrap (n' - 1 - (l[i].text.size : Int).tdiv 16 - l[i].attrs.length) = restNd l[i] n' := by rw [hrest, wrap_id'] <;> omega
    have hw5 : IntKind.i64.wrap (d + 1) = d + 1 := by rw [wrap_id'] <;> omega
    rw [hw2, hw3, hw4, hw5]
    refine ⟨fun h5 => stop _ (lgNd_b hbad h5), fun h5 => ⟨⟨Nat.lt_of_lt_of_le (szNds_kids hi) (Nat.le_of_lt_succ hk), by omega, by omega, by omega, by omega⟩, ⟨fun h6 => stop _ ?_, fun h6 => ?_⟩⟩⟩
    · rw [lgNd_c hbad h5, h6]
    · have e1 : lgLoop d (l.take (i + 1)) n = (false, lgN (d + 1) l[i].kids (restNd l[i] n')) := by
        rw [← List.take_append_getElem hi, lgLoop_snoc hp, ← lpN.eq_1, ← hn', lgNd_c hbad h5, h6]
      rw [wrap_succ hi hl]
      have := hR (by unfold lpB; rw [e1])
      rw [show lpN d (l.take (i + 1)) n = lgN (d + 1) l[i].kids (restNd l[i] n') by unfold lpN; rw [e1]] at this
      exact this
  · refine Eq.mpr (vcLargeB k d l l.length l.length _ _) ⟨fun h => not_lt_self h, fun _ => ?_⟩
    rw [List.take_length] at hp ⊢
    exact h.no hp
theorem int1_le {x : AV} {n : Int} (h : intOf x = some n) : AVle x (.int .i64 n) := Pm.le (p := .int) h
theorem large_lt : ∀ k, Holds 12 (conLargeLt k)
  | 0 => by
    intro args hp ans hc
    unfold conLargeLt at hc
    split at hc
    · simp only [Option.bind_eq_some_iff] at hc
      obtain ⟨a, hx, hc⟩ := hc
      injection hc with hc
      subst hc
      intro F I w vals _ _ hpre
      exact absurd (hpre _ rfl).1 (Nat.not_lt_zero _)
    · cases hc
  | k + 1 => by
    intro args hp ans hc
    unfold conLargeLt at hc
    split at hc
    case h_2 => cases hc
    rename_i x d n
    simp only [Option.bind_eq_some_iff] at hc
    obtain ⟨l, hx, hc⟩ := hc
    injection hc with hc
    subst hc
    refine Meets.weaken (args' := [.row .node l, .ptr 0 0, .int .i64 d]) (.cons (rowOf_le hx) (.cons (.refl _) (.cons (.refl _) .nil))) ?_
    refine fun_meets2 (AllH.tok (.cons (large_lt k) (by kernel_rfl) .nil)) [] (lsLarge k) lsLarge2 (by kernel_rfl) (by kernel_rfl) (large_sum k) (large_sum2 k) fun hpre => Eq.mpr (vcLargeF k l d n _) ?_
    obtain ⟨p1, p2, p3, p4, p5⟩ := hpre _ rfl
    have e : ∀ b v, lgNds d l n = (b, v) → lgB d l n = b ∧ lgN d l n = v := fun b v h => ⟨by unfold lgB; rw [h], by unfold lgN; rw [h]⟩
    have fin : ∀ b v, lgNds d l n = (b, v) → FinQ { pre := some (szNds l < k + 1 ∧ 0 ≤ d ∧ d ≤ 61 ∧ -354 ≤ n ∧ n ≤ 2000), res := .bool (lgB d l n), hp := [.box [.int .i64 (lgN d l n)]] } [.bool b] [.box [.int .i64 v]] [] := fun b v h => by
      obtain ⟨z1, z2⟩ := e b v h
      refine qfin rfl ?_ ?_ rfl
      · show _ = [AV.bool (lgB d l n)]; rw [z1]
      · show _ = [Blk.box [.int .i64 (lgN d l n)]]; rw [z2]
    refine ⟨fun h1 => fin _ _ ?_, fun h1 => ⟨fun _ => ⟨fun h2 => fin _ _ ?_, fun h2 => ⟨fun hm => ⟨⟨rfl, rfl, hm, p1, p2, by simp at h1; omega, p4, p5⟩, ⟨fun h3 => fin _ _ ?_, fun h3 => fin _ _ ?_⟩⟩⟩⟩⟩⟩
    · unfold lgNds topOf; rw [h1]; rfl
    · unfold lgNds topOf; rw [h2]; simp
    · unfold lpB at h3; unfold lgNds topOf; rw [h1, h2]; simp only [Bool.or_self, Bool.false_eq_true, if_false, h3, if_true]; rfl
    · unfold lpB at h3; unfold lgNds topOf; rw [h1, h2]; simp only [Bool.or_self, Bool.false_eq_true, if_false, h3]; rfl
theorem large_holds : Holds 12 conLarge := by
  intro args hp ans hc
  unfold conLarge at hc
  split at hc
  case h_2 => cases hc
  rename_i x d n
  simp only [Option.bind_eq_some_iff] at hc
  obtain ⟨l, hx, hc⟩ := hc
  injection hc with hc
  subst hc
  have := large_lt (szNds l + 1) [x, .ptr 0 0, .int .i64 d] [.box [.int .i64 n]] _ (by simp only [conLargeLt, hx, Option.bind_some]; rfl)
  exact fun F I w vals hH hv hpre => this F I w vals hH hv (fun p hp => by injection hp with hp; subst hp; exact ⟨Nat.lt_succ_self _, hpre _ rfl⟩)
end Go.Proofs.YtpbpabadbipfdaaGreatDoor.AX
end
section
namespace Go.Proofs.YtpbpabadbipfdaaGreatDoor.AXP
open Go Go.Proofs.YtpbpabadbipfdaaGreatDoor.AX
/-! ### Bounds -/
theorem lgLoop_of {d : Int} {l : List Nd} {n : Int} (h : (lgNds d l n).1 = false) : (lgLoop d l n).1 = false := by
  unfold lgNds topOf at h
  split at h
  · cases h
  · split at h
    · cases h
    · rename_i q; simpa using q
mutual
theorem lg_bnd : ∀ (x : Nd) (d n : Int), (lgNd d x n).1 = false → bndNd x
  | ⟨k, s, m, a, t, c⟩, d, n, h => by
    rw [lgNd] at h
    rw [bndNd]
    split at h
    · cases h
    rename_i h1
    split at h
    · cases h
    rename_i h2
    simp only [Bool.or_eq_true, decide_eq_true_eq, not_or] at h1
    refine ⟨⟨by omega, by omega, by omega, fun x hx => ?_⟩, lgs_bnd c _ _ (lgLoop_of h)⟩
    have h2 : attBad a = false := by simpa using h2
    unfold attBad at h2
    rw [List.any_eq_false] at h2
    have := h2 x hx
    unfold attBad1 at this
    simp only [Bool.or_eq_true, decide_eq_true_eq, not_or] at this
    change ¬ ((x.name.size : Int) > 100) ∧ ¬ ((x.value.size : Int) > 2000) at this
    omega
theorem lgs_bnd : ∀ (l : List Nd) (d n : Int), (lgLoop d l n).1 = false → bndNds l
  | [], _, _, _ => by rw [bndNds]; trivial
  | x :: l, d, n, h => by
    rw [lgLoop] at h
    rw [bndNds]
    split at h
    · cases h
    · rename_i q
      exact ⟨lg_bnd x d n (by simpa using q), lgs_bnd l _ _ h⟩
end
mutual
theorem cnt_wt : ∀ n : Nd, cntNd n ≤ wtNd n
  | ⟨k, s, m, a, t, c⟩ => by have := cnts_wt c; rw [cntNd, wtNd]; omega
theorem cnts_wt : ∀ l : List Nd, cntNds l ≤ wtNds l
  | [] => by rw [cntNds]; exact Nat.zero_le _
  | n :: l => by have := cnt_wt n; have := cnts_wt l; rw [cntNds, wtNds]; omega
end
theorem fine_of_large {m : Int} {l : List Nd} (h0 : -354 ≤ m) (h1 : m ≤ 2000) (h : largeM m l = false) : fineNds l := by
  have h2 := largeM_wt h0 h1 h
  have h3 := cnts_wt l
  exact ⟨by omega, lgs_bnd l 1 m (lgLoop_of h)⟩
/-! ### What was written -/
theorem attF_kb : ∀ (a : List At) (t : ByteArray), (∀ x ∈ a, x.name.size ≤ 65536 ∧ x.value.size ≤ 65536) → kb (attF t a) = kb t ++ attL a
  | [], t, _ => by rw [attF, attL, List.append_nil]
  | x :: l, t, h => by
    obtain ⟨h1, h2⟩ := h x (.head _)
    rw [attF, attF_kb l _ fun y hy => h y (.tail _ hy), attL]
    unfold txtQ
    rw [if_pos h1, if_pos h2, kb_app, kb_app, kb_bk, kb_bk]
    simp only [List.append_assoc]
theorem putG_kb : ∀ (l : List Nd) (b : ByteArray), (∀ x ∈ l, ∀ b, kb (putN b x) = kb b ++ ndL x) → kb (putG b l) = kb b ++ ndsL l
  | [], b, _ => by rw [putG, ndsL, List.append_nil]
  | n :: l, b, h => by
    rw [putG, putG_kb l _ fun x hx => h x (.tail _ hx), h n (.head _), ndsL, List.append_assoc]
theorem putF_kb {l : List Nd} (hl : l.length ≤ 300) (b : ByteArray) (h : ∀ x ∈ l, ∀ b, kb (putN b x) = kb b ++ ndL x) : kb (putF b l) = kb b ++ bytesL l := by
  unfold putF bytesL
  rw [putG_kb l _ h, kb_app, numS_nat (by omega), kb_bk, List.append_assoc]
theorem putN_kb : ∀ (d : Nat) (n : Nd), fitN d n → ∀ b, kb (putN b n) = kb b ++ ndL n := by
  intro d
  induction d with
  | zero =>
    intro n h b
    rw [fitN_eq] at h
    obtain ⟨⟨j, hj, hj3⟩, h⟩ := h
    rw [putN_eq, ndL_eq, hj, numS_nat (by omega), Int.toNat_natCast]
    by_cases hlf : leafB n = true
    · rw [if_pos hlf] at h ⊢
      rw [if_pos hlf]
      unfold txtQ
      rw [if_pos h.2.2.2.2, kb_app, kb_app, kb_bk, kb_bk, List.append_assoc]
    · rw [if_neg hlf] at h
      exact h.2.2.2.2.2.2.elim
  | succ d ih =>
    intro n h b
    rw [fitN_eq] at h
    obtain ⟨⟨j, hj, hj3⟩, h⟩ := h
    rw [putN_eq, ndL_eq, hj, numS_nat (by omega), Int.toNat_natCast]
    by_cases hlf : leafB n = true
    · rw [if_pos hlf] at h ⊢
      rw [if_pos hlf]
      unfold txtQ
      rw [if_pos h.2.2.2.2, kb_app, kb_app, kb_bk, kb_bk, List.append_assoc]
    · rw [if_neg hlf] at h ⊢
      rw [if_neg hlf]
      obtain ⟨⟨i, hi, hi2⟩, _, hm, ha, hat, hc, hk⟩ := h
      rw [putF_kb hc _ fun x hx b => ih x (hk x hx) b, attF_kb _ _ hat, hi, numS_nat (by omega), numS_nat (by omega), Int.toNat_natCast]
      unfold txtQ
      rw [if_pos hm]
      simp only [kb_app, kb_bk, List.append_assoc]
/-! ### What is right can be written -/
theorem wrong_zero {m : ByteArray} {a : List At} (h : wrongE m a = 0) : nameB m = true ∧ a.all okA = true ∧ a.length ≤ 12 := by
  unfold wrongE at h
  rw [wrong_all] at h
  split at h
  · cases h
  rename_i h1
  split at h
  · cases h
  rename_i h2
  split at h
  · cases h
  split at h
  · cases h
  exact ⟨by simpa using h1, by simpa using h2, by omega⟩
theorem dp_mem : ∀ {l : List Nd} {x : Nd}, x ∈ l → dpR x ≤ dpRs l
  | n :: l, x, h => by
    rw [dpRs]
    cases h with
    | head => split <;> omega
    | tail _ h => have := dp_mem h; split <;> omega
theorem all_mem : ∀ {l : List Nd} {x : Nd}, allBs l = true → x ∈ l → allB x = true
  | n :: l, x, h, hx => by
    rw [allBs, Bool.and_eq_true] at h
    cases hx with
    | head => exact h.1
    | tail _ hx => exact all_mem h.2 hx
theorem lon_mem : ∀ {l : List Nd} {x : Nd}, lonNds l = false → x ∈ l → lonNd x = false
  | n :: l, x, h, hx => by
    rw [lonNds, Bool.or_eq_false_iff] at h
    cases hx with
    | head => exact h.1
    | tail _ hx => exact lon_mem h.2 hx
theorem allB_eq (n : Nd) : allB n = (rightB n && !joinB n.kids && allBs n.kids) := by cases n; rw [allB]
theorem lonNd_eq (n : Nd) : lonNd n = (longN n || lonNds n.kids) := by cases n; rw [lonNd]
theorem dpR_eq (n : Nd) : dpR n = if (decide (dpRs n.kids > 0) || !leafB n) = true then dpRs n.kids + 1 else dpRs n.kids := by cases n; rw [dpR]; rfl
theorem eqS_bk {s : ByteArray} (h : eqS s ⟨#[]⟩ = true) : s = bk [] := eqS_iff.1 h
theorem fit_of : ∀ (d : Nat) (n : Nd), allB n = true → lonNd n = false → dpR n ≤ d → cntNd n ≤ 301 → fitN d n := by
  intro d
  induction d with
  | zero =>
    intro n h1 h2 h3 h4
    rw [fitN_eq]
    rw [allB_eq] at h1
    rw [lonNd_eq] at h2
    simp only [Bool.and_eq_true, Bool.or_eq_false_iff] at h1 h2
    have hd := dpRs_nn n.kids
    by_cases hlf : leafB n = true
    · have hr := h1.1.1
      unfold rightB at hr
      rw [if_pos hlf] at hr
      simp only [Bool.and_eq_true, beq_iff_eq] at hr
      obtain ⟨⟨⟨⟨⟨r1, r2⟩, r3⟩, r4⟩, r5⟩, r6⟩ := hr
      have hk : n.kind = 2 ∨ n.kind = 3 := by unfold leafB at hlf; simpa using hlf
      have hl := h2.1
      unfold longN at hl
      rw [Bool.or_eq_false_iff, decide_eq_false_iff_not] at hl
      refine ⟨by rcases hk with h | h <;> rw [h]; exact ⟨2, rfl, by decide⟩; exact ⟨3, rfl, by decide⟩, ?_⟩
      rw [if_pos hlf]
      exact ⟨r1, eqS_bk r2, List.eq_nil_of_length_eq_zero r3, List.eq_nil_of_length_eq_zero r4, by omega⟩
    · rw [dpR_eq, if_pos (by simp [hlf])] at h3
      omega
  | succ d ih =>
    intro n h1 h2 h3 h4
    rw [fitN_eq]
    rw [allB_eq] at h1
    rw [lonNd_eq] at h2
    simp only [Bool.and_eq_true, Bool.or_eq_false_iff] at h1 h2
    have hr := h1.1.1
    have hl := h2.1
    unfold longN at hl
    rw [Bool.or_eq_false_iff, decide_eq_false_iff_not, List.any_eq_false] at hl
    unfold rightB at hr
    by_cases hlf : leafB n = true
    · rw [if_pos hlf] at hr
      simp only [Bool.and_eq_true, beq_iff_eq] at hr
      obtain ⟨⟨⟨⟨⟨r1, r2⟩, r3⟩, r4⟩, r5⟩, r6⟩ := hr
      have hk : n.kind = 2 ∨ n.kind = 3 := by unfold leafB at hlf; simpa using hlf
      refine ⟨by rcases hk with h | h <;> rw [h]; exact ⟨2, rfl, by decide⟩; exact ⟨3, rfl, by decide⟩, ?_⟩
      rw [if_pos hlf]
      exact ⟨r1, eqS_bk r2, List.eq_nil_of_length_eq_zero r3, List.eq_nil_of_length_eq_zero r4, by omega⟩
    · rw [if_neg hlf] at hr
      simp only [Bool.and_eq_true, beq_iff_eq, decide_eq_true_eq] at hr
      obtain ⟨⟨⟨⟨r1, r2⟩, r3⟩, r4⟩, r5⟩ := hr
      obtain ⟨w1, w2, w3⟩ := wrong_zero r5
      rw [dpR_eq, if_pos (by simp [hlf])] at h3
      rw [cntNd_eq] at h4
      have hlen := cnt_len n.kids
      refine ⟨⟨1, r1, by decide⟩, ?_⟩
      rw [if_neg hlf]
      refine ⟨⟨n.space.toNat, by omega, by omega⟩, eqS_bk r4, by have := nameB_le w1; omega, w3, fun x hx => ?_, by omega, fun x hx => ?_⟩
      · have hx1 := List.all_eq_true.1 w2 x hx
        have := nameB_le (okA_iff.1 hx1).1
        have hx2 := hl.2 x hx
        unfold bigA at hx2
        rw [decide_eq_true_eq] at hx2
        omega
      · have e1 := dp_mem hx
        have e2 := cnt_memN hx
        exact ih x (all_mem h1.2 hx) (lon_mem h2.2 hx) (by omega) (by omega)
theorem check_zero {l : List Nd} (h : checkS l = 0) : cntNds l ≤ 300 ∧ dpRs l ≤ 40 ∧ allBs l = true := by
  unfold checkS at h
  split at h
  · cases h
  rename_i h1
  split at h
  · rename_i h2
    simp only [Bool.or_eq_true, decide_eq_true_eq, not_or, Bool.and_eq_true] at h1 h2
    rw [depth_eq] at h1
    exact ⟨by omega, by omega, h2.2⟩
  · cases h
theorem bytE_zero {l : List Nd} (h : bytE l = 0) : checkS l = 0 ∧ lonNds l = false := by
  unfold bytE at h
  split at h
  · rename_i h1
    split at h
    · cases h
    · rename_i h2
      exact ⟨h1, by simpa using h2⟩
  · rename_i h1
    exact absurd h h1
theorem fit_all {l : List Nd} (h : bytE l = 0) : l.length ≤ 300 ∧ ∀ x ∈ l, fitN 40 x := by
  obtain ⟨h1, h2⟩ := bytE_zero h
  obtain ⟨h3, h4, h5⟩ := check_zero h1
  have := cnt_len l
  refine ⟨by omega, fun x hx => fit_of 40 x (all_mem h5 hx) (lon_mem h2 hx) ?_ ?_⟩
  · have := dp_mem hx; omega
  · have := cnt_memN hx; omega
theorem bytS_eq {l : List Nd} (h : bytE l = 0) : bytS l = bk (bytesL l) := by
  obtain ⟨h1, h2⟩ := fit_all h
  unfold bytS
  rw [if_pos h]
  apply kb_inj
  rw [putF_kb h1 _ fun x hx b => putN_kb 40 x (h2 x hx) b, kb_bk]; rfl
/-- There and back. -/
theorem read_bytes {l : List Nd} (h : bytE l = 0) : rdS (bytS l) = (l, ⟨bk [], 300 - cntNds l, false⟩) := by
  obtain ⟨h1, h2⟩ := fit_all h
  have hc := (check_zero (bytE_zero h).1).1
  have hp := pNds_bytes 40 l h1 h2 []
  rw [List.append_nil] at hp
  rw [bytS_eq h]
  unfold rdS
  exact rNds_ok 43 1 ⟨bk (bytesL l), 300, false⟩ l [] (by decide) rfl (by rw [kb_bk]; exact hp) (by dsimp only; omega)
theorem read_bytes_ok {l : List Nd} (h : bytE l = 0) : rdL (bytS l) = l ∧ rdE (bytS l) = 0 := by
  have e : rdOK (bytS l) = true := by
    unfold rdOK
    rw [read_bytes h, (bytE_zero h).1]
    dsimp only
    rw [show eqS (bk []) ⟨#[]⟩ = true from eqS_iff.2 rfl]; rfl
  unfold rdL rdE
  rw [e, read_bytes h]; exact ⟨rfl, rfl⟩
/-! ### What is read -/
theorem takeN_lt {b r : List UInt8} {n : Nat} (h : takeN b = some (n, r)) : r.length < b.length := take_num_lt h
theorem takeT_len {b t r : List UInt8} (h : takeT b = some (t, r)) : t.length + r.length < b.length := by
  obtain ⟨rfl, _⟩ := take_txt_inv h
  unfold txtL numL
  simp only [List.length_append, List.length_cons]; omega
theorem pAtts_len : ∀ {c : Nat} {b r : List UInt8} {l : List At}, pAtts c b = some (l, r) → l.length + r.length ≤ b.length ∧ ∀ a ∈ l, a.name.size ≤ b.length ∧ a.value.size ≤ b.length
  | 0, b, r, l, h => by
    rw [pAtts] at h
    injection h with h
    injection h with e1 e2
    subst e1; subst e2
    exact ⟨by simp, fun a ha => (nomatch ha)⟩
  | c + 1, b, r, l, h => by
    rw [pAtts] at h
    split at h
    · cases h
    rename_i x r1 h1
    split at h
    · cases h
    rename_i y r2 h2
    split at h
    · cases h
    rename_i l' z h3
    injection h with h
    injection h with e1 e2
    subst e1; subst e2
    have q1 := takeT_len h1
    have q2 := takeT_len h2
    obtain ⟨q3, q4⟩ := pAtts_len h3
    refine ⟨by rw [List.length_cons]; omega, fun a ha => ?_⟩
    cases ha with
    | head =>
      show (bk x).size ≤ _ ∧ (bk y).size ≤ _
      rw [bk_size, bk_size]; omega
    | tail _ ha => have := q4 a ha; omega
theorem bk_nil_size : (bk []).size = 0 := rfl
theorem pNd_len {pk : List UInt8 → Option (List Nd × List UInt8)} (hpk : ∀ b l r, pk b = some (l, r) → b.length ≤ 3000 → cntNds l + r.length ≤ b.length ∧ bndNds l) {b r : List UInt8} {n : Nd} (h : pNd pk b = some (n, r)) (hb : b.length ≤ 3000) : cntNd n + r.length ≤ b.length ∧ bndNd n := by
  unfold pNd at h
  split at h
  · cases h
  rename_i k r0 h0
  have q0 := takeN_lt h0
  split at h
  · cases h
  split at h
  · split at h
    · cases h
    rename_i t z h1
    have q1 := takeT_len h1
    injection h with h
    injection h with e1 e2
    subst e1; subst e2
    rw [cntNd, cntNds, bndNd, bndNds]
    refine ⟨by omega, ⟨by rw [bk_nil_size]; omega, by rw [bk_size]; omega, by simp, fun x hx => (nomatch hx)⟩, trivial⟩
  split at h
  · cases h
  rename_i s r1 h1
  split at h
  · cases h
  rename_i m r2 h2
  split at h
  · cases h
  rename_i c r3 h3
  split at h
  · cases h
  split at h
  · cases h
  rename_i a r4 h4
  split at h
  · cases h
  rename_i l z h5
  injection h with h
  injection h with e1 e2
  subst e1; subst e2
  have q1 := takeN_lt h1
  have q2 := takeT_len h2
  have q3 := takeN_lt h3
  obtain ⟨q4, q5⟩ := pAtts_len h4
  obtain ⟨q6, q7⟩ := hpk _ _ _ h5 (by omega)
  rw [cntNd, bndNd]
  refine ⟨by omega, ⟨by rw [bk_size]; omega, by rw [bk_nil_size]; omega, by omega, fun x hx => ?_⟩, q7⟩
  have := q5 x hx
  omega
theorem pMany_len {f : List UInt8 → Option (Nd × List UInt8)} (hf : ∀ b n r, f b = some (n, r) → b.length ≤ 3000 → cntNd n + r.length ≤ b.length ∧ bndNd n) : ∀ {c : Nat} {b r : List UInt8} {l : List Nd}, pMany f c b = some (l, r) → b.length ≤ 3000 → cntNds l + r.length ≤ b.length ∧ bndNds l
  | 0, b, r, l, h, _ => by
    rw [pMany] at h
    injection h with h
    injection h with e1 e2
    subst e1; subst e2
    rw [cntNds, bndNds]
    exact ⟨by omega, trivial⟩
  | c + 1, b, r, l, h, hb => by
    rw [pMany] at h
    split at h
    · cases h
    rename_i x r1 h1
    split at h
    · cases h
    rename_i l' z h2
    injection h with h
    injection h with e1 e2
    subst e1; subst e2
    obtain ⟨q1, q2⟩ := hf _ _ _ h1 hb
    obtain ⟨q3, q4⟩ := pMany_len hf h2 (by omega)
    rw [cntNds, bndNds]
    exact ⟨by omega, q2, q4⟩
theorem pNds_len : ∀ (d : Nat) (b : List UInt8) (l : List Nd) (r : List UInt8), pNds d b = some (l, r) → b.length ≤ 3000 → cntNds l + r.length ≤ b.length ∧ bndNds l
  | 0, _, _, _, h, _ => by rw [pNds] at h; cases h
  | d + 1, b, l, r, h, hb => by
    rw [pNds] at h
    split at h
    · cases h
    rename_i c r0 h0
    split at h
    · cases h
    have q0 := takeN_lt h0
    obtain ⟨q1, q2⟩ := pMany_len (fun b n r h hb => pNd_len (pNds_len d) h hb) h (by omega)
    exact ⟨by omega, q2⟩
theorem rd_inv {b : ByteArray} (h : (rdS b).2.bad = false) : ∃ r, pNds 41 (kb b) = some ((rdS b).1, r) ∧ (rdS b).2.b = bk r := by
  obtain ⟨r, h1, h2⟩ := rNds_bad 43 1 ⟨b, 300, false⟩ (by decide) (Int.le_refl _) h
  exact ⟨r, h1, by unfold rdS; rw [h2]⟩
theorem rd_fine {b : ByteArray} (hb : b.size ≤ 3000) (h : (rdS b).2.bad = false) : fineNds (rdS b).1 := by
  obtain ⟨r, h1, _⟩ := rd_inv h
  obtain ⟨q1, q2⟩ := pNds_len 41 _ _ _ h1 (by rw [kb_size]; exact hb)
  rw [kb_size] at q1
  exact ⟨by omega, q2⟩
mutual
theorem lon_bnd : ∀ n : Nd, bndNd n → lonNd n = false
  | ⟨k, s, m, a, t, c⟩, h => by
    rw [bndNd] at h
    obtain ⟨⟨h1, h2, h3, h4⟩, h5⟩ := h
    rw [lonNd, lons_bnd c h5, Bool.or_false]
    unfold longN
    rw [Bool.or_eq_false_iff, decide_eq_false_iff_not, List.any_eq_false]
    refine ⟨by dsimp only; omega, fun x hx => ?_⟩
    unfold bigA
    rw [decide_eq_true_eq]
    have := h4 x hx
    omega
theorem lons_bnd : ∀ l : List Nd, bndNds l → lonNds l = false
  | [], _ => by rw [lonNds]
  | n :: l, h => by
    rw [bndNds] at h
    rw [lonNds, lon_bnd n h.1, lons_bnd l h.2]; rfl
end
/-- What is read is written as it was. -/
theorem bytes_read {b : ByteArray} (hb : b.size ≤ 3000) (h : rdE b = 0) : fineNds (rdL b) ∧ bytE (rdL b) = 0 ∧ bytS (rdL b) = b := by
  have hok : rdOK b = true := by
    unfold rdE at h
    split at h
    · assumption
    · cases h
  have e : rdL b = (rdS b).1 := by unfold rdL; rw [if_pos hok]
  rw [e]
  unfold rdOK at hok
  simp only [Bool.and_eq_true, Bool.not_eq_true', beq_iff_eq] at hok
  obtain ⟨⟨h1, h2⟩, h3⟩ := hok
  have hf := rd_fine hb h1
  have hE : bytE (rdS b).1 = 0 := by
    unfold bytE
    rw [if_pos h3, lons_bnd _ hf.2]; rfl
  refine ⟨hf, hE, ?_⟩
  obtain ⟨r, h4, h5⟩ := rd_inv h1
  have h6 := pNds_inv _ _ _ _ h4
  rw [h5] at h2
  have hr : r = [] := by
    have := eqS_bk h2
    have := congrArg kb this
    rw [kb_bk, kb_bk] at this; exact this
  rw [hr, List.append_nil] at h6
  rw [bytS_eq hE, ← h6, bk_kb]
/-! ### Unlike nodes -/
theorem bytes_pre {a b : List Nd} (ha : bytE a = 0) (hb : bytE b = 0) {t : List UInt8} (h : kb (bytS a) = kb (bytS b) ++ t) : a = b := by
  obtain ⟨a1, a2⟩ := fit_all ha
  obtain ⟨b1, b2⟩ := fit_all hb
  have p1 := pNds_bytes 40 a a1 a2 []
  have p2 := pNds_bytes 40 b b1 b2 t
  rw [bytS_eq ha, bytS_eq hb, kb_bk, kb_bk] at h
  rw [List.append_nil, h, p2] at p1
  injection p1 with p1
  injection p1 with p1 _
  exact p1.symm
end Go.Proofs.YtpbpabadbipfdaaGreatDoor.AXP
end
section
namespace Go.Proofs.YtpbpabadbipfdaaGreatDoor.AXP
open Go Go.Proofs.YtpbpabadbipfdaaGreatDoor.AX
/-- Equal edits. -/
def eqEd (x y : Ed) : Bool := x.what == y.what && eql eqI x.way y.way && eqNd x.old y.old && eqNd x.new y.new
end Go.Proofs.YtpbpabadbipfdaaGreatDoor.AXP
namespace Go.Proofs.YtpbpabadbipfdaaGreatDoor.AX
open Go AXP
def sumEql (t : Ty) (f : den t → den t → Bool) (a b c : List (den t)) (m i : Int) (K : Ex → List AV → List Blk → Prop) : Prop :=
  Rq (c = a ∧ m = a.length ∧ i = 0 ∧ a.length = b.length ∧ a.length ≤ maxSl) (Br (eql f a b) (K (.exit 0) [.any] []) (K .ret [.bool false] []))
def lsEqIts : LS where
  keep := [(0, .as), (1, .as), (12, .as), (13, .as)]
  left := [(4, .as)]
  sum := fun vs bs K => match vs, bs with
    | [.row .int a, .row .int b, .int .i64 m, .int .i64 i], [] => sumEql .int eqI a b a m i K
    | _, _ => False
def lsEqAts : LS where
  keep := [(0, .as), (1, .as), (12, .as), (13, .as)]
  left := [(4, .as)]
  sum := fun vs bs K => match vs, bs with
    | [.row .attr a, .row .attr b, .int .i64 m, .int .i64 i], [] => sumEql .attr eqAt a b a m i K
    | _, _ => False
def lsEqfAts : LS where
  keep := [(1, .as), (2, .as), (15, .as), (16, .as), (17, .as)]
  left := [(6, .as)]
  sum := fun vs bs K => match vs, bs with
    | [.row .attr b, .fn f [], .row .attr a, .int .i64 m, .int .i64 i], [] => Rq (f = 29) (sumEql .attr eqAt a b a m i K)
    | _, _ => False
noncomputable def lsEqfNds (k : Nat) : LS where
  keep := [(1, .as), (2, .as), (15, .as), (16, .as), (17, .as)]
  left := [(6, .as)]
  sum := fun vs bs K => match vs, bs with
    | [.row .node b, .fn f [], .row .node a, .int .i64 m, .int .i64 i], [] => Rq (f = 27 ∧ szNds a < k + 1) (sumEql .node eqNd a b a m i K)
    | _, _ => False
def conEqIts : Con := conP [.row .int, .row .int] fun (a b : List Int) => { res := .bool (eql eqI a b) }
def conEqAts : Con := conP [.row .attr, .row .attr] fun (a b : List At) => { res := .bool (eql eqAt a b) }
def conAtEq : Con := conP [.agg .attr, .agg .attr] fun (a b : At) => { res := .bool (eqAt a b) }
def conEqfAts : Con := conP [.row .attr, .row .attr, .fn 29] fun (a b : List At) _ => { res := .bool (eql eqAt a b) }
noncomputable def conSameLt (k : Nat) : Con := conP [.row .node, .row .node] fun (a b : List Nd) => { pre := some (szNds a < k), res := .bool (eql eqNd a b) }
noncomputable def conSame1 (k : Nat) : Con := conP [.agg .node, .agg .node] fun (a b : Nd) => { pre := some (szNds a.kids < k), res := .bool (eqNd a b) }
noncomputable def conEqfNds (k : Nat) : Con := conP [.row .node, .row .node, .fn 27] fun (a b : List Nd) _ => { pre := some (szNds a < k + 1), res := .bool (eql eqNd a b) }
def conSame : Con := conP [.row .node, .row .node] fun (a b : List Nd) => { res := .bool (eql eqNd a b) }
def conEdSame1 : Con := conP [.agg .node, .agg .node] fun (a b : Nd) => { res := .bool (eqNd a b) }
def conEdSameF : Con := conP [.agg .edit, .agg .edit] fun (a b : Ed) => { res := .bool (eqEd a b) }
def conEdSame : Con := conP [.row .edit, .row .edit] fun (a b : List Ed) => { res := .bool (eql eqEd a b) }
noncomputable def cxEqfAts : Cx := cxT (tabLook [(29, conAtEq)])
noncomputable def cxSame1 (k : Nat) : Cx := cxT (tabLook [(28, conEqfAts), (13, conSameLt k)])
noncomputable def cxEqfNds (k : Nat) : Cx := cxT (tabLook [(27, conSame1 k)])
noncomputable def cxSame (k : Nat) : Cx := cxT (tabLook [(26, conEqfNds k)])
noncomputable def cxEdSame1 : Cx := cxT (tabLook [(13, conSame)])
end Go.Proofs.YtpbpabadbipfdaaGreatDoor.AX
end
section
namespace Go.Proofs.YtpbpabadbipfdaaGreatDoor.AX
open Go AXP
set_option maxRecDepth 100000
theorem vcAtEqF (a b : At) (Q : List AV → List Blk → List Blk → Prop) : (funA cx0 (LL Tryz.f29 []) Tryz.f29 [.agg (leaves .attr a), .agg (leaves .attr b)] [] [] Q) = (
Q [AV.bool (eqS a.1 b.1 && eqS a.2 b.2)] [] []) := by kernel_rfl
theorem vcEqfAtsB (a b : List At) (i m : Int) (K : Ex → List AV → List Blk → Prop) : (bodyA cxEqfAts (LL Tryz.f28 [lsEqfAts]) Tryz.f28.ntmps (loopAt Tryz.f28 0).1 (loopAt Tryz.f28 0).2 lsEqfAts.keep lsEqfAts.left K [.row .attr b, .fn 29 [], .row .attr a, .int .i64 m, .int .i64 i] []) = (
Br (decide (i < m))
  (Rq ((0 : Int) ≤ i ∧ i < (↑a.length : Int))
    (Rq ((0 : Int) ≤ i ∧ i < (↑b.length : Int))
      (Br (!eqAt (At.mk (rd Ty.attr a i).1 (rd Ty.attr a i).2) (At.mk (rd Ty.attr b i).1 (rd Ty.attr b i).2))
        (K Ex.ret [AV.bool false] [])
        (K Ex.norm
          [AV.row Ty.attr b, AV.fn 29 [], AV.row Ty.attr a, AV.int IntKind.i64 m,
            AV.int IntKind.i64 (IntKind.i64.wrap (i + (1 : Int)))]
          []))))
  (K (Ex.exit (0 : Nat)) [AV.any] [])) := by kernel_rfl
theorem vcEqfAtsF (a b : List At) (Q : List AV → List Blk → List Blk → Prop) : (funA cxEqfAts (LL Tryz.f28 [lsEqfAts]) Tryz.f28 [.row .attr a, .row .attr b, .fn 29 []] [] [] Q) = (
Gv (a.length ≤ maxSl)
  (Gv (b.length ≤ maxSl)
    (Br ((↑a.length : Int) != (↑b.length : Int)) (Q [AV.bool false] [] [])
      (Gv (a.length ≤ maxSl)
        (Rq ((29 : Nat) = (29 : Nat))
          (Rq
            (a = a ∧
              (↑a.length : Int) = (↑a.length : Int) ∧ (0 : Int) = (0 : Int) ∧ a.length = b.length ∧ a.length ≤ maxSl)
            (Br (eql eqAt a b) (Q [AV.bool true] [] []) (Q [AV.bool false] [] [])))))))) := by kernel_rfl
theorem vcEqfNdsB (k : Nat) (a b : List Nd) (i m : Int) (K : Ex → List AV → List Blk → Prop) : (bodyA (cxEqfNds k) (LL Tryz.f26 [lsEqfNds k]) Tryz.f26.ntmps (loopAt Tryz.f26 0).1 (loopAt Tryz.f26 0).2 (lsEqfNds k).keep (lsEqfNds k).left K [.row .node b, .fn 27 [], .row .node a, .int .i64 m, .int .i64 i] []) = (
Br (decide (i < m))
  (Rq ((0 : Int) ≤ i ∧ i < (↑a.length : Int))
    (Rq ((0 : Int) ≤ i ∧ i < (↑b.length : Int))
      (Rq (szNds (rd Ty.node a i).6 < k)
        (Br
          (!eqNd
              (Nd.mk (rd Ty.node a i).1 (rd Ty.node a i).2 (rd Ty.node a i).3 (rd Ty.node a i).4 (rd Ty.node a i).5
                (rd Ty.node a i).6)
              (Nd.mk (rd Ty.node b i).1 (rd Ty.node b i).2 (rd Ty.node b i).3 (rd Ty.node b i).4 (rd Ty.node b i).5
                (rd Ty.node b i).6))
          (K Ex.ret [AV.bool false] [])
          (K Ex.norm
            [AV.row Ty.node b, AV.fn 27 [], AV.row Ty.node a, AV.int IntKind.i64 m,
              AV.int IntKind.i64 (IntKind.i64.wrap (i + (1 : Int)))]
            [])))))
  (K (Ex.exit (0 : Nat)) [AV.any] [])) := by kernel_rfl
theorem vcEqfNdsF (k : Nat) (a b : List Nd) (Q : List AV → List Blk → List Blk → Prop) : (funA (cxEqfNds k) (LL Tryz.f26 [lsEqfNds k]) Tryz.f26 [.row .node a, .row .node b, .fn 27 []] [] [] Q) = (
Gv (a.length ≤ maxSl)
  (Gv (b.length ≤ maxSl)
    (Br ((↑a.length : Int) != (↑b.length : Int)) (Q [AV.bool false] [] [])
      (Gv (a.length ≤ maxSl)
        (Rq ((27 : Nat) = (27 : Nat) ∧ szNds a < k + (1 : Nat))
          (Rq
            (a = a ∧
              (↑a.length : Int) = (↑a.length : Int) ∧ (0 : Int) = (0 : Int) ∧ a.length = b.length ∧ a.length ≤ maxSl)
            (Br (eql eqNd a b) (Q [AV.bool true] [] []) (Q [AV.bool false] [] [])))))))) := by kernel_rfl
theorem vcSame1F (k : Nat) (a b : Nd) (Q : List AV → List Blk → List Blk → Prop) : (funA (cxSame1 k) (LL Tryz.f27 []) Tryz.f27 [.agg (leaves .node a), .agg (leaves .node b)] [] [] Q) = (
Br (a.1 == b.1)
  (Br (a.2 == b.2)
    (Br (eqS a.3 b.3)
      (Br (eqS a.5 b.5)
        (Br (eql eqAt a.4 b.4) (Rq (szNds a.6 < k) (Q [AV.bool (eql eqNd a.6 b.6)] [] [])) (Q [AV.bool false] [] []))
        (Q [AV.bool false] [] []))
      (Q [AV.bool false] [] []))
    (Q [AV.bool false] [] []))
  (Q [AV.bool false] [] [])) := by kernel_rfl
theorem vcSameF (k : Nat) (a b : List Nd) (Q : List AV → List Blk → List Blk → Prop) : (funA (cxSame k) (LL Tryz.f13 []) Tryz.f13 [.row .node a, .row .node b] [] [] Q) = (
Rq (szNds a < k + (1 : Nat)) (Q [AV.bool (eql eqNd a b)] [] [])) := by kernel_rfl
end Go.Proofs.YtpbpabadbipfdaaGreatDoor.AX
end
section
namespace Go.Proofs.YtpbpabadbipfdaaGreatDoor.AX
open Go AXP
set_option maxRecDepth 100000
theorem at_eta (x : At) : At.mk x.1 x.2 = x := rfl
theorem rd_int {a : List Int} {i : Nat} (h : i < a.length) : rd .int a (i : Int) = a[i] := rd_get (t := .int) h
theorem eql_drop {α : Type} {f : α → α → Bool} {a b : List α} {i : Nat} (ha : i < a.length) (hb : i < b.length) : eql f (a.drop i) (b.drop i) = (f a[i] b[i] && eql f (a.drop (i + 1)) (b.drop (i + 1))) := by
  rw [List.drop_eq_getElem_cons ha, List.drop_eq_getElem_cons hb]; rfl
theorem eql_len {α : Type} {f : α → α → Bool} : ∀ {a b : List α}, a.length ≠ b.length → eql f a b = false
  | [], [], h => (h rfl).elim
  | [], _ :: _, _ => rfl
  | _ :: _, [], _ => rfl
  | x :: a, y :: b, h => by rw [eql, eql_len (a := a) (b := b) (by simpa using h), Bool.and_false]
/-- The rounds of such a loop. -/
theorem eql_sum {cx : Cx} {L : Loops} {n bl : Nat} {c : Code} {keep left : List (Tmp × Want)} {t : Ty} {f : den t → den t → Bool} {a b : List (den t)} {K : Ex → List AV → List Blk → Prop} (st : Nat → List AV) (hl : a.length = b.length)
    (hb : ∀ (i : Nat) (h : i < a.length) (h' : i < b.length), ∀ R : List AV → List Blk → Prop, (f a[i] b[i] = false → K .ret [.bool false] []) → (f a[i] b[i] = true → R (st (i + 1)) []) → bodyA cx L n bl c keep left (rk K R) (st i) [])
    (he : ∀ R, K (.exit 0) [.any] [] → bodyA cx L n bl c keep left (rk K R) (st a.length) [])
    (h : Br (eql f a b) (K (.exit 0) [.any] []) (K .ret [.bool false] [])) : ∃ m, roundsA cx L n bl c keep left K m (st 0) [] := by
  refine sum_for (fun i => eql f a b = eql f (a.drop i) (b.drop i)) st (fun _ => []) a.length (fun i hi hp R hR => ?_) (fun hp R => ?_) (by simp)
  · have hd := eql_drop (f := f) hi (by omega : i < b.length)
    refine hb i hi (by omega) R (fun h1 => h.no ?_) (fun h1 => hR ?_)
    · rw [hp, hd, h1, Bool.false_and]
    · rw [hp, hd, h1, Bool.true_and]
  · refine he R (h.yes ?_)
    rw [hp, List.drop_length, hl, List.drop_length]; rfl
theorem ret_false {a : Bool} (h : (!a) = true) : a = false := by simpa using h
theorem ret_true {a : Bool} (h : (!a) = false) : a = true := by simpa using h
theorem eqfAts_sum : SumOK cxEqfAts (LL Tryz.f28 [lsEqfAts]) Tryz.f28.ntmps (loopAt Tryz.f28 0).1 (loopAt Tryz.f28 0).2 lsEqfAts := by
  intro vs bs K hs
  unfold lsEqfAts at hs
  simp only at hs
  split at hs
  case h_2 => exact hs.elim
  rename_i b f a m i
  obtain ⟨rfl, ⟨_, rfl, rfl, hl, hm⟩, h⟩ := hs
  refine eql_sum (t := .attr) (fun i => [.row .attr b, .fn 29 [], .row .attr a, .int .i64 a.length, .int .i64 i]) hl (fun i hi hi' R h1 h2 => ?_) (fun R h1 => ?_) h
  · refine Eq.mpr (vcEqfAtsB a b i a.length _) ⟨fun _ => ⟨⟨by omega, by omega⟩, ⟨⟨by omega, by omega⟩, ?_⟩⟩, fun h => lt_of h hi⟩
    rw [rd_at hi, rd_at hi', wrap_succ hi hm]
    exact ⟨fun h => h1 (by simpa using h), fun h => h2 (by simpa using h)⟩
  · exact Eq.mpr (vcEqfAtsB a b a.length a.length _) ⟨fun h => not_lt_self h, fun _ => h1⟩
theorem eqfNds_sum (k : Nat) : SumOK (cxEqfNds k) (LL Tryz.f26 [lsEqfNds k]) Tryz.f26.ntmps (loopAt Tryz.f26 0).1 (loopAt Tryz.f26 0).2 (lsEqfNds k) := by
  intro vs bs K hs
  unfold lsEqfNds at hs
  simp only at hs
  split at hs
  case h_2 => exact hs.elim
  rename_i b f a m i
  obtain ⟨⟨rfl, hk⟩, ⟨_, rfl, rfl, hl, hm⟩, h⟩ := hs
  refine eql_sum (t := .node) (fun i => [.row .node b, .fn 27 [], .row .node a, .int .i64 a.length, .int .i64 i]) hl (fun i hi hi' R h1 h2 => ?_) (fun R h1 => ?_) h
  · refine Eq.mpr (vcEqfNdsB k a b i a.length _) ⟨fun _ => ⟨⟨by omega, by omega⟩, ⟨⟨by omega, by omega⟩, ?_⟩⟩, fun h => lt_of h hi⟩
    rw [rd_nd hi, rd_nd hi', wrap_succ hi hm, nd_eta, nd_eta]
    exact ⟨Nat.lt_of_lt_of_le (szNds_kids hi) (Nat.le_of_lt_succ hk), ⟨fun h => h1 (by simpa using h), fun h => h2 (by simpa using h)⟩⟩
  · exact Eq.mpr (vcEqfNdsB k a b a.length a.length _) ⟨fun h => not_lt_self h, fun _ => h1⟩
/-- Such a function's text. -/
theorem eql_fun {t : Ty} {f : den t → den t → Bool} {a b : List (den t)} {Q : List AV → List Blk → List Blk → Prop} (X : Prop) (hX : X) (hQ : Q [AV.bool (eql f a b)] [] []) : Gv (a.length ≤ maxSl) (Gv (b.length ≤ maxSl) (Br ((a.length : Int) != (b.length : Int)) (Q [AV.bool false] [] [])
    (Gv (a.length ≤ maxSl) (Rq X (Rq (a = a ∧ (a.length : Int) = a.length ∧ (0 : Int) = 0 ∧ a.length = b.length ∧ a.length ≤ maxSl) (Br (eql f a b) (Q [AV.bool true] [] []) (Q [AV.bool false] [] []))))))) := by
  refine ⟨fun h1 => ⟨fun h2 => ⟨fun h3 => ?_, fun h3 => ⟨fun _ => ⟨hX, ⟨⟨rfl, rfl, rfl, ?_, h1⟩, ⟨fun h4 => ?_, fun h4 => ?_⟩⟩⟩⟩⟩⟩⟩
  · rw [eql_len (fun e => by simp [e] at h3)] at hQ; exact hQ
  · have h3 : (a.length : Int) = b.length := by simpa using h3
    omega
  · rw [h4] at hQ; exact hQ
  · rw [h4] at hQ; exact hQ
theorem atEq_holds : Holds 29 conAtEq := conP_holds fun a b => by
  refine fun_meets0 tok0 [] (by kernel_rfl) (by kernel_rfl) fun hpre => Eq.mpr (vcAtEqF a b _) (qfin rfl rfl rfl rfl)
theorem eqfAts_holds : Holds 28 conEqfAts := conP_holds fun a b _ => by
  refine fun_meets1 (AllH.tok (.cons atEq_holds (by kernel_rfl) .nil)) [] lsEqfAts (by kernel_rfl) (by kernel_rfl) eqfAts_sum fun hpre => Eq.mpr (vcEqfAtsF a b _) ?_
  exact eql_fun (t := .attr) (f := eqAt) (a := a) (b := b) (Q := FinQ _) _ rfl (qfin rfl rfl rfl rfl)
theorem same1_of {k : Nat} (h : Holds 13 (conSameLt k)) : Holds 27 (conSame1 k) := conP_holds fun a b => by
  refine fun_meets0 (AllH.tok (.cons eqfAts_holds (by kernel_rfl) (.cons h (by kernel_rfl) .nil))) [] (by kernel_rfl) (by kernel_rfl) fun hpre => Eq.mpr (vcSame1F k a b _) ?_
  have e := eqNd_eq a b
  rw [eqNds_eql] at e
  refine ⟨fun h1 => ⟨fun h2 => ⟨fun h3 => ⟨fun h4 => ⟨fun h5 => ⟨hpre _ rfl, qfin rfl ?_ rfl rfl⟩, fun h5 => qfin rfl ?_ rfl rfl⟩, fun h4 => qfin rfl ?_ rfl rfl⟩, fun h3 => qfin rfl ?_ rfl rfl⟩, fun h2 => qfin rfl ?_ rfl rfl⟩, fun h1 => qfin rfl ?_ rfl rfl⟩ <;>
  · show [AV.bool _] = [AV.bool _]
    rw [e]
    simp only [*, Bool.true_and, Bool.false_and, Bool.and_false]
theorem eqfNds_of {k : Nat} (h : Holds 27 (conSame1 k)) : Holds 26 (conEqfNds k) := conP_holds fun a b _ => by
  refine fun_meets1 (AllH.tok (.cons h (by kernel_rfl) .nil)) [] (lsEqfNds k) (by kernel_rfl) (by kernel_rfl) (eqfNds_sum k) fun hpre => Eq.mpr (vcEqfNdsF k a b _) ?_
  exact eql_fun (t := .node) (f := eqNd) (a := a) (b := b) (Q := FinQ _) _ ⟨rfl, hpre _ rfl⟩ (qfin rfl rfl rfl rfl)
theorem same_lt : ∀ k, Holds 13 (conSameLt k)
  | 0 => conP_holds fun a b F I w vals _ _ hpre => absurd (hpre _ rfl) (Nat.not_lt_zero _)
  | k + 1 => conP_holds fun a b => by
    refine fun_meets0 (AllH.tok (.cons (eqfNds_of (same1_of (same_lt k))) (by kernel_rfl) .nil)) [] (by kernel_rfl) (by kernel_rfl) fun hpre => Eq.mpr (vcSameF k a b _) ⟨hpre _ rfl, qfin rfl rfl rfl rfl⟩
theorem same_holds : Holds 13 conSame := conP_holds fun a b => 
  Meets.nopre (ans := { pre := some (szNds a < szNds a + 1), res := .bool (eql eqNd a b) }) (same_lt (szNds a + 1) [.row .node a, .row .node b] [] _ rfl) (fun p hp => by injection hp with hp; subst hp; exact Nat.lt_succ_self _)
end Go.Proofs.YtpbpabadbipfdaaGreatDoor.AX
end
section
namespace Go.Proofs.YtpbpabadbipfdaaGreatDoor.AXP
open Go Go.Proofs.YtpbpabadbipfdaaGreatDoor.AX
def nd8 : Nd := ⟨2, 0, ⟨#[]⟩, [], ⟨#[97]⟩, []⟩
def begB (a b : ByteArray) : Bool := decide ((a.size : Int) ≥ b.size) && eqS (a.extract 0 b.size) b
end Go.Proofs.YtpbpabadbipfdaaGreatDoor.AXP
namespace Go.Proofs.YtpbpabadbipfdaaGreatDoor.AX
open Go AXP
noncomputable def cxT8 : Cx := cxT (tabLook [(7, conByts), (9, conRead), (13, conSame), (14, conCou), (15, conWor)])
def conT8 : Con := conP [] { res := .bool true }
noncomputable def cxLg8 : Cx := cxT (tabLook [(12, conLarge)])
def conLg8 : Con := conP [.row .node] fun (l : List Nd) => { res := .bool (largeM 1200 l) }
def conBeg : Con := conP [.str, .str] fun (a b : ByteArray) => { res := .bool (begB a b) }
noncomputable def cxBk : Cx := cxT (tabLook [(5, conLg8), (6, conT8), (7, conByts), (9, conRead), (11, conNodes)])
def conTreeBack : Con := conP [.row .node, .str] fun (_ : List Nd) (_ : ByteArray) => { res := .bool true }
def conTreeApart : Con := conP [.row .node, .row .node] fun (_ _ : List Nd) => { res := .bool true }
end Go.Proofs.YtpbpabadbipfdaaGreatDoor.AX
end
section
namespace Go.Proofs.YtpbpabadbipfdaaGreatDoor.AX
open Go AXP
set_option maxRecDepth 100000
theorem vcT8F (Q : List AV → List Blk → List Blk → Prop) : (funA cxT8 (LL Tryz.f6 []) Tryz.f6 [] [] [] Q) = (
Rq (fineNds [Nd.mk (2 : Int) (0 : Int) (ByteArray.mk (Array.mk [])) [] (ByteArray.mk (Array.mk [(97 : UInt8)])) []])
  (Rq
    (rdPre
      (bytS [Nd.mk (2 : Int) (0 : Int) (ByteArray.mk (Array.mk [])) [] (ByteArray.mk (Array.mk [(97 : UInt8)])) []]))
    (Br true
      (Br true
        (Br
          (eqS
            (bytS
              [Nd.mk (2 : Int) (0 : Int) (ByteArray.mk (Array.mk [])) [] (ByteArray.mk (Array.mk [(97 : UInt8)])) []])
            (ByteArray.mk
              (Array.mk [(1 : UInt8), (1 : UInt8), (1 : UInt8), (2 : UInt8), (1 : UInt8), (1 : UInt8), (97 : UInt8)])))
          (Br
            (eql eqNd
              [Nd.mk (2 : Int) (0 : Int) (ByteArray.mk (Array.mk [])) [] (ByteArray.mk (Array.mk [(97 : UInt8)])) []]
              (rdL
                (bytS
                  [Nd.mk (2 : Int) (0 : Int) (ByteArray.mk (Array.mk [])) [] (ByteArray.mk (Array.mk [(97 : UInt8)]))
                      []])))
            (Rq
              (cntNds
                  [Nd.mk (2 : Int) (0 : Int) (ByteArray.mk (Array.mk [])) [] (ByteArray.mk (Array.mk [(97 : UInt8)]))
                      []] <
                (1000000 : Nat))
              (Br true
                (Rq
                  (fineNds
                    [Nd.mk (2 : Int) (0 : Int) (ByteArray.mk (Array.mk [])) [] (ByteArray.mk (Array.mk [(97 : UInt8)]))
                        []])
                  (Q
                    [AV.bool
                        (eqS
                          (wdNds
                            [Nd.mk (2 : Int) (0 : Int) (ByteArray.mk (Array.mk [])) []
                                (ByteArray.mk (Array.mk [(97 : UInt8)])) []]
                            (ByteArray.mk (Array.mk [])))
                          (ByteArray.mk (Array.mk [(97 : UInt8)])))]
                    [] []))
                (Q [AV.bool false] [] [])))
            (Q [AV.bool false] [] []))
          (Q [AV.bool false] [] []))
        (Q [AV.bool false] [] []))
      (Q [AV.bool false] [] [])))) := by kernel_rfl
theorem vcLg8F (l : List Nd) (Q : List AV → List Blk → List Blk → Prop) : (funA cxLg8 (LL Tryz.f5 []) Tryz.f5 [.row .node l] [] [] Q) = (
Rq ((0 : Int) ≤ (1 : Int) ∧ (1 : Int) ≤ (61 : Int) ∧ (-354 : Int) ≤ (1200 : Int) ∧ (1200 : Int) ≤ (2000 : Int))
  (Q [AV.bool (lgB (1 : Int) l (1200 : Int))] [] [])) := by kernel_rfl
end Go.Proofs.YtpbpabadbipfdaaGreatDoor.AX
end
section
namespace Go.Proofs.YtpbpabadbipfdaaGreatDoor.AXP
open Go Go.Proofs.YtpbpabadbipfdaaGreatDoor.AX
theorem fine8 : fineNds [nd8] := by
  refine ⟨by decide, ?_⟩
  unfold nd8
  rw [bndNds, bndNd, bndNds]
  exact ⟨⟨⟨by decide, by decide, by decide, fun x hx => (nomatch hx)⟩, trivial⟩, trivial⟩
theorem bytE8 : bytE [nd8] = 0 := by decide +kernel
theorem bytS8 : bytS [nd8] = ⟨#[1, 1, 1, 2, 1, 1, 97]⟩ := by
  rw [bytS_eq bytE8]; decide +kernel
theorem pre_bytes {l : List Nd} (hf : fineNds l) (h : bytE l = 0) : rdPre (bytS l) := fun _ _ => by rw [read_bytes h]; exact hf
theorem pre_small {b : ByteArray} (h : b.size ≤ 3000) : rdPre b := fun q _ => rd_fine h q
theorem eql_refl (l : List Nd) : eql eqNd l l = true := eql_self eqNd_self l
theorem beg_iff {a b : ByteArray} (h : begB a b = true) : ∃ t, kb a = kb b ++ t := by
  unfold begB at h
  rw [Bool.and_eq_true, decide_eq_true_eq] at h
  have e := congrArg kb (eqS_iff.1 h.2)
  rw [kb_ext, List.drop_zero] at e
  exact ⟨(kb a).drop b.size, by rw [← e, List.take_append_drop]⟩
theorem beg_self (a : ByteArray) : begB a a = true := by
  unfold begB
  rw [decide_eq_true (Int.le_refl _), Bool.true_and]
  refine eqS_iff.2 (kb_inj ?_)
  rw [kb_ext, List.drop_zero, List.take_of_length_le (by rw [kb_size]; exact Nat.le_refl _)]
end Go.Proofs.YtpbpabadbipfdaaGreatDoor.AXP
namespace Go.Proofs.YtpbpabadbipfdaaGreatDoor.AX
open Go AXP
set_option maxRecDepth 100000
theorem t8_holds : Holds 6 conT8 := conP_holds <| by
  refine fun_meets0 (AllH.tok (.cons byts_holds (by kernel_rfl) (.cons read_holds (by kernel_rfl) (.cons same_holds (by kernel_rfl) (.cons cou_holds (by kernel_rfl) (.cons wor_holds (by kernel_rfl) .nil)))))) [] (by kernel_rfl) (by kernel_rfl) fun _ => Eq.mpr (vcT8F _) ?_
  show Rq (fineNds [nd8]) (Rq (rdPre (bytS [nd8])) (Br true (Br true (Br (eqS (bytS [nd8]) ⟨#[1, 1, 1, 2, 1, 1, 97]⟩) (Br (eql eqNd [nd8] (rdL (bytS [nd8]))) (Rq (cntNds [nd8] < 1000000) (Br true (Rq (fineNds [nd8]) _) _)) _) _) _) _))
  refine Rq.mk fine8 (Rq.mk (pre_bytes fine8 bytE8) ⟨fun _ => ⟨fun _ => ⟨fun _ => ⟨fun _ => Rq.mk fine8.1 ⟨fun _ => Rq.mk fine8 (qfin rfl ?_ rfl rfl), fun h => absurd h (by decide)⟩, fun h => ?_⟩, fun h => ?_⟩, fun h => absurd h (by decide)⟩, fun h => absurd h (by decide)⟩)
  · have : eqS (wdNds [nd8] ⟨#[]⟩) ⟨#[97]⟩ = true := by decide +kernel
    exact congrArg (fun b => [AV.bool b]) this
  · rw [(read_bytes_ok bytE8).1, eql_refl] at h; cases h
  · rw [bytS8] at h
    exact absurd h (by decide +kernel)
theorem lg8_holds : Holds 5 conLg8 := conP_holds fun l => by
  exact fun_meets0 (AllH.tok (.cons large_holds (by kernel_rfl) .nil)) [] (by kernel_rfl) (by kernel_rfl) fun hpre => Eq.mpr (vcLg8F l _) ⟨by decide, qfin rfl rfl rfl rfl⟩
end Go.Proofs.YtpbpabadbipfdaaGreatDoor.AX
end
section
namespace Go.Proofs.YtpbpabadbipfdaaGreatDoor.AXP
open Go Go.Proofs.YtpbpabadbipfdaaGreatDoor.AX
def cntF (n : Int) : List Nd → Int
  | [] => n
  | x :: l => cntF (n + 1 + cntNds x.kids) l
def depF (m : Int) : List Nd → Int
  | [] => m
  | x :: l => depF (if dpR x > m then dpR x else m) l
def wdF (b : ByteArray) : List Nd → ByteArray
  | [] => b
  | x :: l => wdF ((if (x.kind == 2) = true then b ++ x.text else b) ++ woRs x.kids ⟨#[]⟩) l
end Go.Proofs.YtpbpabadbipfdaaGreatDoor.AXP
namespace Go.Proofs.YtpbpabadbipfdaaGreatDoor.AX
open Go AXP
noncomputable def conCn8Lt (k : Nat) : Con := conP [.row .node] fun (l : List Nd) => { pre := some (szNds l < k ∧ cntNds l < 1000000), res := .int .i64 (cntNds l) }
noncomputable def cxCn8 (k : Nat) : Cx := cxT (tabLook [(44, conCn8Lt k)])
noncomputable def lsCn8 (k : Nat) : LS where
  keep := [(3, .as), (6, .as), (7, .as), (8, .as)]
  left := [(3, .as)]
  sum := fun vs bs K => match vs, bs with
    | [.int .i64 n, .row .node l, .int .i64 m, .int .i64 i], [] => Rq (n = 0 ∧ m = l.length ∧ i = 0 ∧ szNds l < k + 1 ∧ cntNds l < 1000000) (K (.exit 0) [.int .i64 (cntNds l)] [])
    | _, _ => False
noncomputable def conDp8Lt (k : Nat) : Con := conP [.row .node] fun (l : List Nd) => { pre := some (szNds l < k ∧ cntNds l < 1000000), res := .int .i64 (dpRs l) }
noncomputable def cxDp8 (k : Nat) : Cx := cxT (tabLook [(45, conDp8Lt k), (61, conLeaf)])
noncomputable def lsDp8 (k : Nat) : LS where
  keep := [(3, .as), (7, .as), (8, .as), (9, .as)]
  left := [(3, .as)]
  sum := fun vs bs K => match vs, bs with
    | [.int .i64 n, .row .node l, .int .i64 m, .int .i64 i], [] => Rq (n = 0 ∧ m = l.length ∧ i = 0 ∧ szNds l < k + 1 ∧ cntNds l < 1000000) (K (.exit 0) [.int .i64 (dpRs l)] [])
    | _, _ => False
noncomputable def conWo8Lt (k : Nat) : Con := conP [.row .node] fun (l : List Nd) => { pre := some (szNds l < k ∧ fineNds l), res := .str (woRs l ⟨#[]⟩) }
noncomputable def lsWo8 (k : Nat) : LS where
  keep := [(3, .as), (6, .as), (7, .as), (8, .as)]
  left := [(3, .as)]
  sum := fun vs bs K => match vs, bs with
    | [.str b, .row .node l, .int .i64 m, .int .i64 i], [] => Rq (b.size = 0 ∧ m = l.length ∧ i = 0 ∧ szNds l < k + 1 ∧ fineNds l) (K (.exit 0) [.str (woRs l ⟨#[]⟩)] [])
    | _, _ => False
noncomputable def conRi8Lt (k : Nat) : Con := conP [.row .node] fun (l : List Nd) => { pre := some (szNds l < k ∧ bndNds l), res := .bool (riRs l false) }
noncomputable def cxRi8 (k : Nat) : Cx := cxT (tabLook [(61, conLeaf), (62, conGd6), (63, conWr6), (46, conRi8Lt k)])
noncomputable def lsRi8 (k : Nat) : LS where
  keep := [(0, .as), (5, .as), (6, .as), (7, .as)]
  left := [(2, .as)]
  sum := fun vs bs K => match vs, bs with
    | [.row .node l, .row .node l', .int .i64 m, .int .i64 i], [] => Rq (l' = l ∧ m = l.length ∧ i = 0 ∧ szNds l < k + 1 ∧ l.length ≤ maxSl ∧ bndNds l) (Br (riRs l false) (K (.exit 0) [.any] []) (K .ret [.bool false] []))
    | _, _ => False
def conCn8 : Con := conP [.row .node] fun (l : List Nd) => { pre := some (cntNds l < 1000000), res := .int .i64 (cntNds l) }
def conDp8 : Con := conP [.row .node] fun (l : List Nd) => { pre := some (cntNds l < 1000000), res := .int .i64 (dpRs l) }
def conWo8 : Con := conP [.row .node] fun (l : List Nd) => { pre := some (fineNds l), res := .str (woRs l ⟨#[]⟩) }
def conRi8 : Con := conP [.row .node] fun (l : List Nd) => { pre := some (bndNds l), res := .bool (riRs l false) }
noncomputable def cxCk8 : Cx := cxT (tabLook [(44, conCn8), (45, conDp8), (46, conRi8)])
def conCk8 : Con := conP [.row .node] fun (l : List Nd) => { pre := some (fineNds l), res := .int .i64 (checkS l) }
def conTc : Con := conP [.row .node] fun (_ : List Nd) => { res := .bool true }
end Go.Proofs.YtpbpabadbipfdaaGreatDoor.AX
end
section
namespace Go.Proofs.YtpbpabadbipfdaaGreatDoor.AX
open Go AXP
set_option maxRecDepth 100000
theorem vcLf8F (n : Nd) (Q : List AV → List Blk → List Blk → Prop) : (funA cx0 (LL Tryz.f61 []) Tryz.f61 [.agg (nodeL n)] [] [] Q) = (
Br (n.1 == (2 : Int)) (Q [AV.bool true] [] []) (Q [AV.bool (n.1 == (3 : Int))] [] [])) := by kernel_rfl
theorem vcCn8B (k : Nat) (n : Int) (l : List Nd) (m i : Int) (K : Ex → List AV → List Blk → Prop) : (bodyA (cxCn8 k) (LL Tryz.f44 [lsCn8 k]) Tryz.f44.ntmps (loopAt Tryz.f44 0).1 (loopAt Tryz.f44 0).2 (lsCn8 k).keep (lsCn8 k).left K [.int .i64 n, .row .node l, .int .i64 m, .int .i64 i] []) = (
Br (decide (i < m))
  (Rq ((0 : Int) ≤ i ∧ i < (↑l.length : Int))
    (Rq (szNds (rd Ty.node l i).6 < k ∧ cntNds (rd Ty.node l i).6 < (1000000 : Nat))
      (K Ex.norm
        [AV.int IntKind.i64
            (IntKind.i64.wrap (IntKind.i64.wrap (n + (1 : Int)) + (↑(cntNds (rd Ty.node l i).6) : Int))),
          AV.row Ty.node l, AV.int IntKind.i64 m, AV.int IntKind.i64 (IntKind.i64.wrap (i + (1 : Int)))]
        [])))
  (K (Ex.exit (0 : Nat)) [AV.int IntKind.i64 n] [])) := by kernel_rfl
theorem vcCn8F (k : Nat) (l : List Nd) (Q : List AV → List Blk → List Blk → Prop) : (funA (cxCn8 k) (LL Tryz.f44 [lsCn8 k]) Tryz.f44 [.row .node l] [] [] Q) = (
Gv (l.length ≤ maxSl)
  (Rq
    ((0 : Int) = (0 : Int) ∧
      (↑l.length : Int) = (↑l.length : Int) ∧
        (0 : Int) = (0 : Int) ∧ szNds l < k + (1 : Nat) ∧ cntNds l < (1000000 : Nat))
    (Q [AV.int IntKind.i64 (↑(cntNds l) : Int)] [] []))) := by kernel_rfl
theorem vcDp8B (k : Nat) (n : Int) (l : List Nd) (m i : Int) (K : Ex → List AV → List Blk → Prop) : (bodyA (cxDp8 k) (LL Tryz.f45 [lsDp8 k]) Tryz.f45.ntmps (loopAt Tryz.f45 0).1 (loopAt Tryz.f45 0).2 (lsDp8 k).keep (lsDp8 k).left K [.int .i64 n, .row .node l, .int .i64 m, .int .i64 i] []) = (
Br (decide (i < m))
  (Rq ((0 : Int) ≤ i ∧ i < (↑l.length : Int))
    (Rq (szNds (rd Ty.node l i).6 < k ∧ cntNds (rd Ty.node l i).6 < (1000000 : Nat))
      (Br (decide (dpRs (rd Ty.node l i).6 > (0 : Int)))
        (Br (decide (IntKind.i64.wrap (dpRs (rd Ty.node l i).6 + (1 : Int)) > n))
          (K Ex.norm
            [AV.int IntKind.i64 (IntKind.i64.wrap (dpRs (rd Ty.node l i).6 + (1 : Int))), AV.row Ty.node l,
              AV.int IntKind.i64 m, AV.int IntKind.i64 (IntKind.i64.wrap (i + (1 : Int)))]
            [])
          (K Ex.norm
            [AV.int IntKind.i64 n, AV.row Ty.node l, AV.int IntKind.i64 m,
              AV.int IntKind.i64 (IntKind.i64.wrap (i + (1 : Int)))]
            []))
        (Br
          (!leafB
              (Nd.mk (rd Ty.node l i).1 (rd Ty.node l i).2 (rd Ty.node l i).3 (rd Ty.node l i).4 (rd Ty.node l i).5
                (rd Ty.node l i).6))
          (Br (decide (IntKind.i64.wrap (dpRs (rd Ty.node l i).6 + (1 : Int)) > n))
            (K Ex.norm
              [AV.int IntKind.i64 (IntKind.i64.wrap (dpRs (rd Ty.node l i).6 + (1 : Int))), AV.row Ty.node l,
                AV.int IntKind.i64 m, AV.int IntKind.i64 (IntKind.i64.wrap (i + (1 : Int)))]
              [])
            (K Ex.norm
              [AV.int IntKind.i64 n, AV.row Ty.node l, AV.int IntKind.i64 m,
                AV.int IntKind.i64 (IntKind.i64.wrap (i + (1 : Int)))]
              []))
          (Br (decide (dpRs (rd Ty.node l i).6 > n))
            (K Ex.norm
              [AV.int IntKind.i64 (dpRs (rd Ty.node l i).6), AV.row Ty.node l, AV.int IntKind.i64 m,
                AV.int IntKind.i64 (IntKind.i64.wrap (i + (1 : Int)))]
              [])
            (K Ex.norm
              [AV.int IntKind.i64 n, AV.row Ty.node l, AV.int IntKind.i64 m,
                AV.int IntKind.i64 (IntKind.i64.wrap (i + (1 : Int)))]
              []))))))
  (K (Ex.exit (0 : Nat)) [AV.int IntKind.i64 n] [])) := by kernel_rfl
theorem vcDp8F (k : Nat) (l : List Nd) (Q : List AV → List Blk → List Blk → Prop) : (funA (cxDp8 k) (LL Tryz.f45 [lsDp8 k]) Tryz.f45 [.row .node l] [] [] Q) = (
Gv (l.length ≤ maxSl)
  (Rq
    ((0 : Int) = (0 : Int) ∧
      (↑l.length : Int) = (↑l.length : Int) ∧
        (0 : Int) = (0 : Int) ∧ szNds l < k + (1 : Nat) ∧ cntNds l < (1000000 : Nat))
    (Q [AV.int IntKind.i64 (dpRs l)] [] []))) := by kernel_rfl
theorem vcRi8B (k : Nat) (l : List Nd) (m i : Int) (K : Ex → List AV → List Blk → Prop) : (bodyA (cxRi8 k) (LL Tryz.f46 [lsRi8 k]) Tryz.f46.ntmps (loopAt Tryz.f46 0).1 (loopAt Tryz.f46 0).2 (lsRi8 k).keep (lsRi8 k).left K [.row .node l, .row .node l, .int .i64 m, .int .i64 i] []) = (
Br (decide (i < m))
  (Rq ((0 : Int) ≤ i ∧ i < (↑l.length : Int))
    (Br ((rd Ty.node l i).1 == (2 : Int))
      (Br (decide (i > (0 : Int)))
        (Rq ((0 : Int) ≤ IntKind.i64.wrap (i - (1 : Int)) ∧ IntKind.i64.wrap (i - (1 : Int)) < (↑l.length : Int))
          (Br ((rd Ty.node l (IntKind.i64.wrap (i - (1 : Int)))).1 == (2 : Int)) (K Ex.ret [AV.bool false] [])
            (Br
              (leafB
                (Nd.mk (rd Ty.node l i).1 (rd Ty.node l i).2 (rd Ty.node l i).3 (rd Ty.node l i).4 (rd Ty.node l i).5
                  (rd Ty.node l i).6))
              (Br ((rd Ty.node l i).2 != (0 : Int)) (K Ex.ret [AV.bool false] [])
                (Br (!eqS (rd Ty.node l i).3 (ByteArray.mk (Array.mk []))) (K Ex.ret [AV.bool false] [])
                  (Br (decide ((↑(rd Ty.node l i).4.length : Int) > (0 : Int)))
                    (Gv ((rd Ty.node l i).4.length ≤ maxSl) (K Ex.ret [AV.bool false] []))
                    (Br (decide ((↑(rd Ty.node l i).6.length : Int) > (0 : Int)))
                      (Gv ((rd Ty.node l i).4.length ≤ maxSl)
                        (Gv ((rd Ty.node l i).6.length ≤ maxSl) (K Ex.ret [AV.bool false] [])))
                      (Rq ((rd Ty.node l i).5.size ≤ (1000000 : Nat))
                        (Br (!goodB (rd Ty.node l i).5)
                          (Gv ((rd Ty.node l i).4.length ≤ maxSl)
                            (Gv ((rd Ty.node l i).6.length ≤ maxSl) (K Ex.ret [AV.bool false] [])))
                          (Br ((rd Ty.node l i).1 == (2 : Int))
                            (Gv ((rd Ty.node l i).4.length ≤ maxSl)
                              (Gv ((rd Ty.node l i).6.length ≤ maxSl)
                                (Br (eqS (rd Ty.node l i).5 (ByteArray.mk (Array.mk []))) (K Ex.ret [AV.bool false] [])
                                  (K Ex.norm
                                    [AV.row Ty.node l, AV.row Ty.node l, AV.int IntKind.i64 m,
                                      AV.int IntKind.i64 (IntKind.i64.wrap (i + (1 : Int)))]
                                    []))))
                            (Gv ((rd Ty.node l i).4.length ≤ maxSl)
                              (Gv ((rd Ty.node l i).6.length ≤ maxSl)
                                (K Ex.norm
                                  [AV.row Ty.node l, AV.row Ty.node l, AV.int IntKind.i64 m,
                                    AV.int IntKind.i64 (IntKind.i64.wrap (i + (1 : Int)))]
                                  []))))))))))
              (Br ((rd Ty.node l i).1 != (1 : Int)) (K Ex.ret [AV.bool false] [])
                (Br (decide ((rd Ty.node l i).2 < (0 : Int))) (K Ex.ret [AV.bool false] [])
                  (Br (decide ((rd Ty.node l i).2 > (2 : Int))) (K Ex.ret [AV.bool false] [])
                    (Br (!eqS (rd Ty.node l i).5 (ByteArray.mk (Array.mk []))) (K Ex.ret [AV.bool false] [])
                      (Rq (oBnd (rd Ty.node l i).4)
                        (Br (wrongE (rd Ty.node l i).3 (rd Ty.node l i).4 != (0 : Int)) (K Ex.ret [AV.bool false] [])
                          (Rq (szNds (rd Ty.node l i).6 < k ∧ bndNds (rd Ty.node l i).6)
                            (Br (!riRs (rd Ty.node l i).6 false) (K Ex.ret [AV.bool false] [])
                              (K Ex.norm
                                [AV.row Ty.node l, AV.row Ty.node l, AV.int IntKind.i64 m,
                                  AV.int IntKind.i64 (IntKind.i64.wrap (i + (1 : Int)))]
                                []))))))))))))
        (Br
          (leafB
            (Nd.mk (rd Ty.node l i).1 (rd Ty.node l i).2 (rd Ty.node l i).3 (rd Ty.node l i).4 (rd Ty.node l i).5
              (rd Ty.node l i).6))
          (Br ((rd Ty.node l i).2 != (0 : Int)) (K Ex.ret [AV.bool false] [])
            (Br (!eqS (rd Ty.node l i).3 (ByteArray.mk (Array.mk []))) (K Ex.ret [AV.bool false] [])
              (Br (decide ((↑(rd Ty.node l i).4.length : Int) > (0 : Int)))
                (Gv ((rd Ty.node l i).4.length ≤ maxSl) (K Ex.ret [AV.bool false] []))
                (Br (decide ((↑(rd Ty.node l i).6.length : Int) > (0 : Int)))
                  (Gv ((rd Ty.node l i).4.length ≤ maxSl)
                    (Gv ((rd Ty.node l i).6.length ≤ maxSl) (K Ex.ret [AV.bool false] [])))
                  (Rq ((rd Ty.node l i).5.size ≤ (1000000 : Nat))
                    (Br (!goodB (rd Ty.node l i).5)
                      (Gv ((rd Ty.node l i).4.length ≤ maxSl)
                        (Gv ((rd Ty.node l i).6.length ≤ maxSl) (K Ex.ret [AV.bool false] [])))
                      (Br ((rd Ty.node l i).1 == (2 : Int))
                        (Gv ((rd Ty.node l i).4.length ≤ maxSl)
                          (Gv ((rd Ty.node l i).6.length ≤ maxSl)
                            (Br (eqS (rd Ty.node l i).5 (ByteArray.mk (Array.mk []))) (K Ex.ret [AV.bool false] [])
                              (K Ex.norm
                                [AV.row Ty.node l, AV.row Ty.node l, AV.int IntKind.i64 m,
                                  AV.int IntKind.i64 (IntKind.i64.wrap (i + (1 : Int)))]
                                []))))
                        (Gv ((rd Ty.node l i).4.length ≤ maxSl)
                          (Gv ((rd Ty.node l i).6.length ≤ maxSl)
                            (K Ex.norm
                              [AV.row Ty.node l, AV.row Ty.node l, AV.int IntKind.i64 m,
                                AV.int IntKind.i64 (IntKind.i64.wrap (i + (1 : Int)))]
                              []))))))))))
          (Br ((rd Ty.node l i).1 != (1 : Int)) (K Ex.ret [AV.bool false] [])
            (Br (decide ((rd Ty.node l i).2 < (0 : Int))) (K Ex.ret [AV.bool false] [])
              (Br (decide ((rd Ty.node l i).2 > (2 : Int))) (K Ex.ret [AV.bool false] [])
                (Br (!eqS (rd Ty.node l i).5 (ByteArray.mk (Array.mk []))) (K Ex.ret [AV.bool false] [])
                  (Rq (oBnd (rd Ty.node l i).4)
                    (Br (wrongE (rd Ty.node l i).3 (rd Ty.node l i).4 != (0 : Int)) (K Ex.ret [AV.bool false] [])
                      (Rq (szNds (rd Ty.node l i).6 < k ∧ bndNds (rd Ty.node l i).6)
                        (Br (!riRs (rd Ty.node l i).6 false) (K Ex.ret [AV.bool false] [])
                          (K Ex.norm
                            [AV.row Ty.node l, AV.row Ty.node l, AV.int IntKind.i64 m,
                              AV.int IntKind.i64 (IntKind.i64.wrap (i + (1 : Int)))]
                            [])))))))))))
      (Br
        (leafB
          (Nd.mk (rd Ty.node l i).1 (rd Ty.node l i).2 (rd Ty.node l i).3 (rd Ty.node l i).4 (rd Ty.node l i).5
            (rd Ty.node l i).6))
        (Br ((rd Ty.node l i).2 != (0 : Int)) (K Ex.ret [AV.bool false] [])
          (Br (!eqS (rd Ty.node l i).3 (ByteArray.mk (Array.mk []))) (K Ex.ret [AV.bool false] [])
            (Br (decide ((↑(rd Ty.node l i).4.length : Int) > (0 : Int)))
              (Gv ((rd Ty.node l i).4.length ≤ maxSl) (K Ex.ret [AV.bool false] []))
              (Br (decide ((↑(rd Ty.node l i).6.length : Int) > (0 : Int)))
                (Gv ((rd Ty.node l i).4.length ≤ maxSl)
                  (Gv ((rd Ty.node l i).6.length ≤ maxSl) (K Ex.ret [AV.bool false] [])))
                (Rq ((rd Ty.node l i).5.size ≤ (1000000 : Nat))
                  (Br (!goodB (rd Ty.node l i).5)
                    (Gv ((rd Ty.node l i).4.length ≤ maxSl)
                      (Gv ((rd Ty.node l i).6.length ≤ maxSl) (K Ex.ret [AV.bool false] [])))
                    (Br ((rd Ty.node l i).1 == (2 : Int))
                      (Gv ((rd Ty.node l i).4.length ≤ maxSl)
                        (Gv ((rd Ty.node l i).6.length ≤ maxSl)
                          (Br (eqS (rd Ty.node l i).5 (ByteArray.mk (Array.mk []))) (K Ex.ret [AV.bool false] [])
                            (K Ex.norm
                              [AV.row Ty.node l, AV.row Ty.node l, AV.int IntKind.i64 m,
                                AV.int IntKind.i64 (IntKind.i64.wrap (i + (1 : Int)))]
                              []))))
                      (Gv ((rd Ty.node l i).4.length ≤ maxSl)
                        (Gv ((rd Ty.node l i).6.length ≤ maxSl)
                          (K Ex.norm
                            [AV.row Ty.node l, AV.row Ty.node l, AV.int IntKind.i64 m,
                              AV.int IntKind.i64 (IntKind.i64.wrap (i + (1 : Int)))]
                            []))))))))))
        (Br ((rd Ty.node l i).1 != (1 : Int)) (K Ex.ret [AV.bool false] [])
          (Br (decide ((rd Ty.node l i).2 < (0 : Int))) (K Ex.ret [AV.bool false] [])
            (Br (decide ((rd Ty.node l i).2 > (2 : Int))) (K Ex.ret [AV.bool false] [])
              (Br (!eqS (rd Ty.node l i).5 (ByteArray.mk (Array.mk []))) (K Ex.ret [AV.bool false] [])
                (Rq (oBnd (rd Ty.node l i).4)
                  (Br (wrongE (rd Ty.node l i).3 (rd Ty.node l i).4 != (0 : Int)) (K Ex.ret [AV.bool false] [])
                    (Rq (szNds (rd Ty.node l i).6 < k ∧ bndNds (rd Ty.node l i).6)
                      (Br (!riRs (rd Ty.node l i).6 false) (K Ex.ret [AV.bool false] [])
                        (K Ex.norm
                          [AV.row Ty.node l, AV.row Ty.node l, AV.int IntKind.i64 m,
                            AV.int IntKind.i64 (IntKind.i64.wrap (i + (1 : Int)))]
                          []))))))))))))
  (K (Ex.exit (0 : Nat)) [AV.any] [])) := by kernel_rfl
theorem vcRi8F (k : Nat) (l : List Nd) (Q : List AV → List Blk → List Blk → Prop) : (funA (cxRi8 k) (LL Tryz.f46 [lsRi8 k]) Tryz.f46 [.row .node l] [] [] Q) = (
Gv (l.length ≤ maxSl)
  (Rq
    (l = l ∧
      (↑l.length : Int) = (↑l.length : Int) ∧
        (0 : Int) = (0 : Int) ∧ szNds l < k + (1 : Nat) ∧ l.length ≤ maxSl ∧ bndNds l)
    (Br (riRs l false) (Q [AV.bool true] [] []) (Q [AV.bool false] [] [])))) := by kernel_rfl
theorem vcCk8F (l : List Nd) (Q : List AV → List Blk → List Blk → Prop) : (funA cxCk8 (LL Tryz.f20 []) Tryz.f20 [.row .node l] [] [] Q) = (
Rq (cntNds l < (1000000 : Nat))
  (Br (decide ((↑(cntNds l) : Int) > (300 : Int))) (Q [AV.int IntKind.i64 (2 : Int)] [] [])
    (Rq (cntNds l < (1000000 : Nat))
      (Br (decide (dpRs l > (40 : Int))) (Q [AV.int IntKind.i64 (2 : Int)] [] [])
        (Rq (bndNds l)
          (Br (!riRs l false) (Q [AV.int IntKind.i64 (4 : Int)] [] []) (Q [AV.int IntKind.i64 (0 : Int)] [] []))))))) := by kernel_rfl
end Go.Proofs.YtpbpabadbipfdaaGreatDoor.AX
end
section
namespace Go.Proofs.YtpbpabadbipfdaaGreatDoor.AXP
open Go Go.Proofs.YtpbpabadbipfdaaGreatDoor.AX
mutual
theorem dp_cnt : ∀ n : Nd, dpR n ≤ cntNd n
  | ⟨k, s, m, a, t, c⟩ => by
    have := dps_cnt c
    rw [dpR, cntNd]
    split <;> omega
theorem dps_cnt : ∀ l : List Nd, dpRs l ≤ cntNds l
  | [] => by rw [dpRs, cntNds]; exact Int.le_refl _
  | n :: l => by
    have := dp_cnt n
    have := dps_cnt l
    rw [dpRs, cntNds]
    split <;> omega
end
theorem woR_eq (n : Nd) (b : ByteArray) : woR n b = (if (n.kind == 2) = true then b ++ n.text else b) ++ woRs n.kids ⟨#[]⟩ := by cases n; rw [woR]
theorem wo_total {l : List Nd} (h : fineNds l) : (woRs l ⟨#[]⟩).size ≤ maxSl := by
  rw [← wds_wo]
  have h1 := wds_le l ⟨#[]⟩ h.2
  have h0 : (ByteArray.mk #[]).size = 0 := rfl
  have h2 := h.1
  have hmx : maxSl = 140737488355328 := rfl
  omega
theorem bnd_mem : ∀ {l : List Nd} {n : Nd}, bndNds l → n ∈ l → bndNd n
  | m :: l, n, h, hm => by
    rw [bndNds] at h
    cases hm with
    | head => exact h.1
    | tail _ hm => exact bnd_mem h.2 hm
theorem bndNd_eq (n : Nd) : bndNd n = (ndFit n.name n.text n.attrs ∧ bndNds n.kids) := by cases n; rw [bndNd]
theorem fine_kids {l : List Nd} {i : Nat} (h : fineNds l) (hi : i < l.length) : fineNds l[i].kids := by
  have h1 := cnt_mem hi
  have h2 := bnd_mem h.2 (List.getElem_mem hi)
  rw [cntNd_eq] at h1
  rw [bndNd_eq] at h2
  exact ⟨by have := h.1; omega, h2.2⟩
def prevT (l : List Nd) (i : Nat) : Bool := decide ((i : Int) > 0) && ((rd Ty.node l ((i : Int) - 1)).1 == 2)
theorem riR_def (n : Nd) (p : Bool) : riR n p = if ((n.1 == 2) && p) = true then false else if leafB n = true then n.2 == 0 && eqS n.3 ⟨#[]⟩ && !decide ((n.4.length : Int) > 0) && !decide ((n.6.length : Int) > 0) && goodB n.5 && !((n.1 == 2) && eqS n.5 ⟨#[]⟩)
      else n.1 == 1 && !decide (n.2 < 0) && !decide (n.2 > 2) && eqS n.5 ⟨#[]⟩ && wrongE n.3 n.4 == 0 && riRs n.6 false := by
  have hL : ∀ {α : Type} (l : List α), (l.length == 0) = !decide ((l.length : Int) > 0) := fun l => by
    cases l with
    | nil => rfl
    | cons x l =>
      rw [decide_eq_true (show ((x :: l).length : Int) > 0 by rw [List.length_cons]; omega)]; rfl
  have h1 : ∀ s : Int, decide (0 ≤ s) = !decide (s < 0) := fun s => by rw [← decide_not]; congr 1; apply propext; omega
  have h2 : ∀ s : Int, decide (s ≤ 2) = !decide (s > 2) := fun s => by rw [← decide_not]; congr 1; apply propext; omega
  obtain ⟨k, s, m, a, t, c⟩ := n
  rw [riR, hL, hL, h1, h2]; rfl
end Go.Proofs.YtpbpabadbipfdaaGreatDoor.AXP
namespace Go.Proofs.YtpbpabadbipfdaaGreatDoor.AX
open Go AXP
set_option maxRecDepth 100000
theorem sz_memT {l : List Nd} {n : Nd} (h : n ∈ l) : szNds n.kids < szNds l := by
  obtain ⟨i, hi, rfl⟩ := List.getElem_of_mem h
  exact szNds_kids hi
theorem lf8_holds : Holds 61 conLeaf := conP_holds fun n => by
  refine fun_meets0 tok0 [] (by kernel_rfl) (by kernel_rfl) fun _ => Eq.mpr (vcLf8F n _) ?_
  have e : ∀ b, leafB n = b → [AV.bool b] = compsOf (.bool (leafB n)) := fun b h => by rw [h]; rfl
  refine ⟨fun h => qfin rfl (e _ ?_) rfl rfl, fun h => qfin rfl (e _ ?_) rfl rfl⟩
  · show (n.1 == 2 || n.1 == 3) = true
    rw [h]; rfl
  · show (n.1 == 2 || n.1 == 3) = (n.1 == 3)
    rw [h]; rfl
theorem cn8_sum (k : Nat) : SumOK (cxCn8 k) (LL Tryz.f44 [lsCn8 k]) Tryz.f44.ntmps (loopAt Tryz.f44 0).1 (loopAt Tryz.f44 0).2 (lsCn8 k) := by
  intro vs bs K hs
  unfold lsCn8 at hs
  simp only at hs
  split at hs
  case h_2 => exact hs.elim
  rename_i n l m i
  rcases (show ∃ w : List Nd, w = l from ⟨_, rfl⟩) with ⟨l, rfl⟩
  obtain ⟨⟨rfl, rfl, rfl, hk, hc⟩, h⟩ := hs
  have hlen := cnt_len l
  have hm : l.length ≤ maxSl := by unfold maxSl; omega
  refine sum_rec (σ := Nat × Nat) (fun s => [.int .i64 (s.2 : Nat), .row .node l, .int .i64 l.length, .int .i64 (s.1 : Nat)]) (fun _ => []) (fun s => s.1 ≤ l.length ∧ s.2 + cntNds (l.drop s.1) = cntNds l) (fun s => l.length - s.1) ?_ (0, 0) ⟨Nat.zero_le _, by simp⟩
  rintro ⟨i, n⟩ ⟨hi, he⟩ R hR
  dsimp only at hi he hR ⊢
  refine Eq.mpr (vcCn8B k n l l.length i _) ⟨fun h1 => ?_, fun h1 => ?_⟩
  · have hlt : i < l.length := by have := of_decide_eq_true h1; omega
    rw [rd_nd hlt, wrap_succ hlt hm]
    rw [List.drop_eq_getElem_cons hlt, cntNds, cntNd_eq] at he
    have ew : IntKind.i64.wrap (IntKind.i64.wrap ((n : Int) + 1) + (cntNds l[i].kids : Int)) = ((n + 1 + cntNds l[i].kids : Nat) : Int) := by
      rw [wrap_id' (i := (n : Int) + 1) (by omega) (by omega), wrap_id' (by omega) (by omega)]; omega
    have hz := sz_memT (List.getElem_mem hlt)
    refine Rq.mk ⟨by omega, by omega⟩ (Rq.mk ⟨by show szNds l[i].kids < k; omega, by show cntNds l[i].kids < 1000000; omega⟩ ?_)
    have := hR (i + 1, n + 1 + cntNds l[i].kids) ⟨hlt, by dsimp only; omega⟩ (by dsimp only; omega)
    dsimp only at this
    rw [← ew] at this
    exact this
  · have hge : l.length ≤ i := by have := of_decide_eq_false h1; omega
    rw [List.drop_of_length_le hge, cntNds, Nat.add_zero] at he
    rw [he]
    exact h
theorem cn8_lt : ∀ k, Holds 44 (conCn8Lt k)
  | 0 => conP_holds fun l => by
    intro F I w vals _ _ hpre
    exact absurd (hpre _ rfl).1 (Nat.not_lt_zero _)
  | k + 1 => conP_holds fun l => by
    rcases (show ∃ w : List Nd, w = l from ⟨_, rfl⟩) with ⟨l, rfl⟩
    refine fun_meets1 (AllH.tok (.cons (cn8_lt k) (by kernel_rfl) .nil)) [] (lsCn8 k) (by kernel_rfl) (by kernel_rfl) (cn8_sum k) fun hpre => Eq.mpr (vcCn8F k l _) ?_
    obtain ⟨h1, h2⟩ : szNds l < k + 1 ∧ cntNds l < 1000000 := hpre _ rfl
    exact ⟨fun _ => Rq.mk ⟨rfl, rfl, rfl, h1, h2⟩ (qfin rfl rfl rfl rfl)⟩
theorem cn8_holds : Holds 44 conCn8 := conP_holds fun l => by
  rcases (show ∃ w : List Nd, w = l from ⟨_, rfl⟩) with ⟨l, rfl⟩
  intro F I w vals hH hv hpre
  exact cn8_lt (szNds l + 1) [.row .node l] [] { pre := some (szNds l < szNds l + 1 ∧ cntNds l < 1000000), res := .int .i64 (cntNds l) } rfl F I w vals hH hv (fun p hp => by injection hp with hp; subst hp; exact ⟨Nat.lt_succ_self _, hpre _ rfl⟩)
theorem dp8_sum (k : Nat) : SumOK (cxDp8 k) (LL Tryz.f45 [lsDp8 k]) Tryz.f45.ntmps (loopAt Tryz.f45 0).1 (loopAt Tryz.f45 0).2 (lsDp8 k) := by
  intro vs bs K hs
  unfold lsDp8 at hs
  simp only at hs
  split at hs
  case h_2 => exact hs.elim
  rename_i n l m i
  rcases (show ∃ w : List Nd, w = l from ⟨_, rfl⟩) with ⟨l, rfl⟩
  obtain ⟨⟨rfl, rfl, rfl, hk, hc⟩, h⟩ := hs
  have hlen := cnt_len l
  have hm : l.length ≤ maxSl := by unfold maxSl; omega
  have hnn := dpRs_nn l
  refine sum_rec (σ := Nat × Int) (fun s => [.int .i64 s.2, .row .node l, .int .i64 l.length, .int .i64 (s.1 : Nat)]) (fun _ => []) (fun s => s.1 ≤ l.length ∧ (if dpRs (l.drop s.1) > s.2 then dpRs (l.drop s.1) else s.2) = dpRs l ∧ 0 ≤ s.2) (fun s => l.length - s.1) ?_ (0, 0) ⟨Nat.zero_le _, by dsimp only; rw [List.drop_zero]; split <;> omega, Int.le_refl _⟩
  rintro ⟨i, n⟩ ⟨hi, he, hn0⟩ R hR
  dsimp only at hi he hn0 hR ⊢
  refine Eq.mpr (vcDp8B k n l l.length i _) ⟨fun h1 => ?_, fun h1 => ?_⟩
  · have hlt : i < l.length := by have := of_decide_eq_true h1; omega
    rw [rd_nd hlt, wrap_succ hlt hm]
    simp only [nd_eta]
    rw [List.drop_eq_getElem_cons hlt, dpRs, dpR_eq] at he
    have hz := sz_memT (List.getElem_mem hlt)
    have h2 := cnt_mem hlt
    rw [cntNd_eq] at h2
    have h3 := dps_cnt l[i].kids
    have h4 := dpRs_nn l[i].kids
    have ew : IntKind.i64.wrap (dpRs l[i].6 + 1) = dpRs l[i].kids + 1 := by show IntKind.i64.wrap (dpRs l[i].kids + 1) = _; rw [wrap_id'] <;> omega
    rw [ew]
    have hgo := fun v => hR (i + 1, v)
    dsimp only at hgo
    refine Rq.mk ⟨by omega, by omega⟩ (Rq.mk ⟨by show szNds l[i].kids < k; omega, by show cntNds l[i].kids < 1000000; omega⟩ ?_)
    have h4 : 0 ≤ dpRs l[i].kids := h4
    refine ⟨fun g1 => ⟨fun g2 => hgo _ ⟨hlt, ?_, by omega⟩ (by omega), fun g2 => hgo _ ⟨hlt, ?_, by omega⟩ (by omega)⟩, fun g1 => ⟨fun g2 => ⟨fun g3 => hgo _ ⟨hlt, ?_, by omega⟩ (by omega), fun g3 => hgo _ ⟨hlt, ?_, by omega⟩ (by omega)⟩, fun g2 => ⟨fun g3 => hgo _ ⟨hlt, ?_, by omega⟩ (by omega), fun g3 => hgo _ ⟨hlt, ?_, by omega⟩ (by omega)⟩⟩⟩
    · have g2 : dpRs l[i].kids + 1 > n := of_decide_eq_true g2
      have e : (if (decide (dpRs l[i].kids > 0) || !leafB l[i]) = true then dpRs l[i].kids + 1 else dpRs l[i].kids) = dpRs l[i].kids + 1 := if_pos (by rw [g1]; rfl)
      rw [e] at he
      repeat' split at he
      all_goals split <;> omega
    · have g2 : ¬ dpRs l[i].kids + 1 > n := of_decide_eq_false g2
      have e : (if (decide (dpRs l[i].kids > 0) || !leafB l[i]) = true then dpRs l[i].kids + 1 else dpRs l[i].kids) = dpRs l[i].kids + 1 := if_pos (by rw [g1]; rfl)
      rw [e] at he
      repeat' split at he
      all_goals split <;> omega
    · have g3 : dpRs l[i].kids + 1 > n := of_decide_eq_true g3
      have e : (if (decide (dpRs l[i].kids > 0) || !leafB l[i]) = true then dpRs l[i].kids + 1 else dpRs l[i].kids) = dpRs l[i].kids + 1 := if_pos (by rw [g2, Bool.or_true])
      rw [e] at he
      repeat' split at he
      all_goals split <;> omega
    · have g3 : ¬ dpRs l[i].kids + 1 > n := of_decide_eq_false g3
      have e : (if (decide (dpRs l[i].kids > 0) || !leafB l[i]) = true then dpRs l[i].kids + 1 else dpRs l[i].kids) = dpRs l[i].kids + 1 := if_pos (by rw [g2, Bool.or_true])
      rw [e] at he
      repeat' split at he
      all_goals split <;> omega
    · have g3 : dpRs l[i].kids > n := of_decide_eq_true g3
      have e : (if (decide (dpRs l[i].kids > 0) || !leafB l[i]) = true then dpRs l[i].kids + 1 else dpRs l[i].kids) = dpRs l[i].kids := if_neg (by rw [g1, g2]; decide)
      rw [e] at he
      repeat' split at he
      all_goals split <;> omega
    · have g3 : ¬ dpRs l[i].kids > n := of_decide_eq_false g3
      have e : (if (decide (dpRs l[i].kids > 0) || !leafB l[i]) = true then dpRs l[i].kids + 1 else dpRs l[i].kids) = dpRs l[i].kids := if_neg (by rw [g1, g2]; decide)
      rw [e] at he
      repeat' split at he
      all_goals split <;> omega
  · have hge : l.length ≤ i := by have := of_decide_eq_false h1; omega
    rw [List.drop_of_length_le hge, dpRs] at he
    have hn : n = dpRs l := by split at he <;> omega
    rw [hn]
    exact h
theorem dp8_lt : ∀ k, Holds 45 (conDp8Lt k)
  | 0 => conP_holds fun l => by
    intro F I w vals _ _ hpre
    exact absurd (hpre _ rfl).1 (Nat.not_lt_zero _)
  | k + 1 => conP_holds fun l => by
    rcases (show ∃ w : List Nd, w = l from ⟨_, rfl⟩) with ⟨l, rfl⟩
    refine fun_meets1 (AllH.tok (.cons (dp8_lt k) (by kernel_rfl) (.cons lf8_holds (by kernel_rfl) .nil))) [] (lsDp8 k) (by kernel_rfl) (by kernel_rfl) (dp8_sum k) fun hpre => Eq.mpr (vcDp8F k l _) ?_
    obtain ⟨h1, h2⟩ : szNds l < k + 1 ∧ cntNds l < 1000000 := hpre _ rfl
    exact ⟨fun _ => Rq.mk ⟨rfl, rfl, rfl, h1, h2⟩ (qfin rfl rfl rfl rfl)⟩
theorem dp8_holds : Holds 45 conDp8 := conP_holds fun l => by
  rcases (show ∃ w : List Nd, w = l from ⟨_, rfl⟩) with ⟨l, rfl⟩
  intro F I w vals hH hv hpre
  exact dp8_lt (szNds l + 1) [.row .node l] [] { pre := some (szNds l < szNds l + 1 ∧ cntNds l < 1000000), res := .int .i64 (dpRs l) } rfl F I w vals hH hv (fun p hp => by injection hp with hp; subst hp; exact ⟨Nat.lt_succ_self _, hpre _ rfl⟩)
theorem ri8_sum (k : Nat) : SumOK (cxRi8 k) (LL Tryz.f46 [lsRi8 k]) Tryz.f46.ntmps (loopAt Tryz.f46 0).1 (loopAt Tryz.f46 0).2 (lsRi8 k) := by
  intro vs bs K hs
  unfold lsRi8 at hs
  simp only at hs
  split at hs
  case h_2 => exact hs.elim
  rename_i l l' m i
  rcases (show ∃ w : List Nd, w = l from ⟨_, rfl⟩) with ⟨l, rfl⟩
  obtain ⟨⟨el, rfl, rfl, hk, hm, hb⟩, h⟩ := hs
  have el : l = l' := el.symm
  subst el
  refine sum_rec (σ := Nat) (fun i => [.row .node l, .row .node l, .int .i64 l.length, .int .i64 (i : Nat)]) (fun _ => []) (fun i => i ≤ l.length ∧ riRs (l.drop i) (prevT l i) = riRs l false) (fun i => l.length - i) ?_ 0 ⟨Nat.zero_le _, rfl⟩
  rintro i ⟨hi, he⟩ R hR
  refine Eq.mpr (vcRi8B k l l.length i _) ⟨fun h1 => ?_, fun h1 => ?_⟩
  · have hlt : i < l.length := by have := of_decide_eq_true h1; omega
    have ew : IntKind.i64.wrap ((i : Int) - 1) = (i : Int) - 1 := by unfold maxSl at hm; rw [wrap_id'] <;> omega
    have hz := sz_memT (List.getElem_mem hlt)
    have hbn := bnd_mem hb (List.getElem_mem hlt)
    rw [bndNd_eq] at hbn
    have hx1 : l[i].5.size ≤ 1000000 := Nat.le_trans hbn.1.2.1 (by decide)
    have hx2 : oBnd l[i].4 := ⟨Nat.le_trans hbn.1.2.2.1 (by decide), fun x hx => Nat.le_trans (hbn.1.2.2.2 x hx).2 (by decide)⟩
    have hx3 : szNds l[i].6 < k ∧ bndNds l[i].6 := ⟨by show szNds l[i].kids < k; omega, hbn.2⟩
    have hidx : decide ((i : Int) > 0) = true → 0 ≤ (i : Int) - 1 ∧ (i : Int) - 1 < (l.length : Int) := fun q => by have := of_decide_eq_true q; omega
    have hcur : (0 : Int) ≤ (i : Int) ∧ (i : Int) < (l.length : Int) := ⟨by omega, by omega⟩
    rw [List.drop_eq_getElem_cons hlt, riRs] at he
    have hp : prevT l (i + 1) = (l[i].kind == 2) := by
      unfold prevT
      rw [decide_eq_true (show ((i + 1 : Nat) : Int) > 0 by omega), Bool.true_and, show ((i + 1 : Nat) : Int) - 1 = (i : Int) by omega, rd_nd hlt]
    rw [ew, rd_nd hlt, wrap_succ hlt hm]
    simp only [nd_eta]
    have ret : riR l[i] (prevT l i) = false → K .ret [.bool false] [] := fun q => by
      rw [q, Bool.false_and] at he
      exact h.no he.symm
    have nxt : riR l[i] (prevT l i) = true → R [.row .node l, .row .node l, .int .i64 l.length, .int .i64 ((i + 1 : Nat) : Int)] [] := fun q => by
      rw [q, Bool.true_and] at he
      exact hR (i + 1) ⟨hlt, by rw [hp]; exact he⟩ (by omega)
    rw [riR_def] at ret nxt
    unfold prevT at ret nxt
    clear he hp hR h hb hbn hz ew
    generalize l[i] = n at ret nxt hx1 hx2 hx3 ⊢
    unfold bne
    generalize (n.1 == 2) = a at ret nxt ⊢
    generalize ((rd Ty.node l ((i : Int) - 1)).1 == 2) = c at ret nxt ⊢
    generalize decide ((i : Int) > 0) = p at ret nxt hidx ⊢
    generalize leafB n = f at ret nxt ⊢
    generalize (n.2 == 0) = s0 at ret nxt ⊢
    generalize eqS n.3 ⟨#[]⟩ = e3 at ret nxt ⊢
    generalize decide ((n.4.length : Int) > 0) = l4 at ret nxt ⊢
    generalize decide ((n.6.length : Int) > 0) = l6 at ret nxt ⊢
    generalize goodB n.5 = g5 at ret nxt ⊢
    generalize eqS n.5 ⟨#[]⟩ = e5 at ret nxt ⊢
    generalize (n.1 == 1) = k1 at ret nxt ⊢
    generalize decide (n.2 < 0) = t0 at ret nxt ⊢
    generalize decide (n.2 > 2) = t2 at ret nxt ⊢
    generalize (wrongE n.3 n.4 == 0) = w at ret nxt ⊢
    generalize riRs n.6 false = rr at ret nxt ⊢
    repeat' (first | refine Rq.mk hcur ?_ | refine Rq.mk (hidx (by assumption)) ?_ | refine Rq.mk hx1 ?_ | refine Rq.mk hx2 ?_ | refine Rq.mk hx3 ?_ | refine Gv.mk (fun _ => ?_) | refine Br.mk (fun _ => ?_) (fun _ => ?_) | fail)
    all_goals first
      | exact ret (by simp_all)
      | exact nxt (by simp_all)
  · have hge : l.length ≤ i := by have := of_decide_eq_false h1; omega
    rw [List.drop_of_length_le hge, riRs] at he
    exact h.yes he.symm
theorem ri8_lt : ∀ k, Holds 46 (conRi8Lt k)
  | 0 => conP_holds fun l => by
    intro F I w vals _ _ hpre
    exact absurd (hpre _ rfl).1 (Nat.not_lt_zero _)
  | k + 1 => conP_holds fun l => by
    rcases (show ∃ w : List Nd, w = l from ⟨_, rfl⟩) with ⟨l, rfl⟩
    refine fun_meets1 (AllH.tok (.cons lf8_holds (by kernel_rfl) (.cons gd6_holds (by kernel_rfl) (.cons wr6_holds (by kernel_rfl) (.cons (ri8_lt k) (by kernel_rfl) .nil))))) [] (lsRi8 k) (by kernel_rfl) (by kernel_rfl) (ri8_sum k) fun hpre => Eq.mpr (vcRi8F k l _) ?_
    obtain ⟨h1, h2⟩ : szNds l < k + 1 ∧ bndNds l := hpre _ rfl
    have e : ∀ b, riRs l false = b → [AV.bool b] = compsOf (.bool (riRs l false)) := fun b h => by rw [h]; rfl
    exact ⟨fun hm => Rq.mk ⟨rfl, rfl, rfl, h1, hm, h2⟩ ⟨fun h => qfin rfl (e _ h) rfl rfl, fun h => qfin rfl (e _ h) rfl rfl⟩⟩
theorem ri8_holds : Holds 46 conRi8 := conP_holds fun l => by
  rcases (show ∃ w : List Nd, w = l from ⟨_, rfl⟩) with ⟨l, rfl⟩
  intro F I w vals hH hv hpre
  exact ri8_lt (szNds l + 1) [.row .node l] [] { pre := some (szNds l < szNds l + 1 ∧ bndNds l), res := .bool (riRs l false) } rfl F I w vals hH hv (fun p hp => by injection hp with hp; subst hp; exact ⟨Nat.lt_succ_self _, hpre _ rfl⟩)
theorem ck8_holds : Holds 20 conCk8 := conP_holds fun l => by
  rcases (show ∃ w : List Nd, w = l from ⟨_, rfl⟩) with ⟨l, rfl⟩
  refine fun_meets0 (AllH.tok (.cons cn8_holds (by kernel_rfl) (.cons dp8_holds (by kernel_rfl) (.cons ri8_holds (by kernel_rfl) .nil)))) [] (by kernel_rfl) (by kernel_rfl) fun hpre => Eq.mpr (vcCk8F l _) ?_
  obtain ⟨h, hb⟩ : fineNds l := hpre _ rfl
  have e : ∀ b, checkS l = b → [AV.int .i64 b] = compsOf (.int .i64 (checkS l)) := fun b h => by rw [h]; rfl
  have hd : checkS l = if (decide ((cntNds l : Int) > 300) || decide (dpRs l > 40)) = true then 2 else if riRs l false = true then 0 else 4 := by
    rw [right_eq]; unfold checkS; rw [depth_eq]
  refine Rq.mk h ⟨fun h1 => qfin rfl (e _ ?_) rfl rfl, fun h1 => Rq.mk h ⟨fun h2 => qfin rfl (e _ ?_) rfl rfl, fun h2 => Rq.mk hb ⟨fun h3 => qfin rfl (e _ ?_) rfl rfl, fun h3 => qfin rfl (e _ ?_) rfl rfl⟩⟩⟩
  · rw [hd, h1]; rfl
  · rw [hd, h2, Bool.or_true]; rfl
  · have h3 : riRs l false = false := by rw [← Bool.not_eq_true']; exact h3
    rw [hd, h1, h2, h3]; rfl
  · have h3 : riRs l false = true := by rw [← Bool.not_eq_false']; exact h3
    rw [hd, h1, h2, h3]; rfl
end Go.Proofs.YtpbpabadbipfdaaGreatDoor.AX
end
section
namespace Go.Proofs.YtpbpabadbipfdaaGreatDoor.AXP
open Go Go.Proofs.YtpbpabadbipfdaaGreatDoor.AX
def plN (n : Int) : ByteArray := bk (numL n.toNat)
def txR (s : ByteArray) : ByteArray := plN s.size ++ s
def lonB (b : Bool) : List Nd → Bool
  | [] => b
  | n :: l => lonB (b || lonNd n) l
end Go.Proofs.YtpbpabadbipfdaaGreatDoor.AXP
namespace Go.Proofs.YtpbpabadbipfdaaGreatDoor.AX
open Go AXP
def lsSz1 : LS where
  keep := [(3, .as), (4, .as)]
  left := [(3, .as)]
  sum := fun vs bs K => match vs, bs with
    | [.int .i64 k, .int .i64 x], [] => Rq (k = 0 ∧ x ≤ 1099511627776) (K (.exit 0) [.int .i64 (b256 x.toNat).length] [])
    | _, _ => False
def conSz1 : Con := conP [.int] fun (n : Int) => { pre := some (n ≤ 1099511627776), res := .int .i64 (b256 n.toNat).length }
noncomputable def cxPl1 : Cx := cxT (tabLook [(64, conSz1)])
def lsPl1 : LS where
  keep := [(0, .as), (3, .as), (4, .as)]
  left := [(0, .as), (3, .as)]
  sum := fun vs bs K => match vs, bs with
    | [.int .i64 n, .str o, .int .i64 x], [] => Rq (x = n ∧ o.size = 0 ∧ x ≤ 1099511627776) (K (.exit 0) [.int .i64 n, .str (bk (b256 x.toNat))] [])
    | _, _ => False
def conPl1 : Con := conP [.int] fun (n : Int) => { pre := some (n ≤ 1099511627776), res := .str (plN n) }
noncomputable def cxTx8 : Cx := cxT (tabLook [(47, conPl1)])
def conTx8 : Con := conP [.str] fun (s : ByteArray) => { pre := some (s.size ≤ 1000000), res := .str (bk (txtL (kb s))) }
noncomputable def conNo8 (k : Nat) : Con := conP [.agg .node] fun (n : Nd) => { pre := some (szNds n.kids < k ∧ bndNd n ∧ (ndL n).length ≤ maxSl ∧ ∃ d, fitN d n), res := .str (bk (ndL n)) }
noncomputable def conPn8 (k : Nat) : Con := conP [.row .node] fun (l : List Nd) => { pre := some (szNds l < k ∧ bndNds l ∧ l.length ≤ 300 ∧ (bytesL l).length ≤ maxSl ∧ ∃ d, ∀ x ∈ l, fitN d x), res := .str (bk (bytesL l)) }
noncomputable def cxNo8 (k : Nat) : Cx := cxT (tabLook [(47, conPl1), (61, conLeaf), (65, conTx8), (22, conPn8 k)])
def lsNo8 : LS where
  keep := [(1, .as), (3, .as), (31, .as), (32, .as), (33, .as)]
  left := [(1, .as), (3, .as)]
  sum := fun vs bs K => match vs, bs with
    | [.ptr 0 0, .str o, .row .attr a, .int .i64 q, .int .i64 i], [.box [.int .i64 c0, .int .i64 c1, .str c2, .row .attr c3, .str c4, .row .node c5]] => Rq (q = a.length ∧ i = 0 ∧ a.length ≤ maxSl ∧ o.size + (attL a).length ≤ maxSl ∧ ∀ x ∈ a, x.name.size ≤ 5000 ∧ x.value.size ≤ 5000) (K (.exit 0) [.ptr 0 0, .str (o ++ bk (attL a))] [.box [.int .i64 c0, .int .i64 c1, .str c2, .row .attr c3, .str c4, .row .node c5]])
    | _, _ => False
noncomputable def cxPn8 (k : Nat) : Cx := cxT (tabLook [(47, conPl1), (48, conNo8 k)])
noncomputable def lsPn8 (k : Nat) : LS where
  keep := [(3, .as), (9, .as), (10, .as), (11, .as)]
  left := [(3, .as)]
  sum := fun vs bs K => match vs, bs with
    | [.str o, .row .node l, .int .i64 m, .int .i64 i], [] => Rq (m = l.length ∧ i = 0 ∧ l.length ≤ maxSl ∧ szNds l < k + 1 ∧ bndNds l ∧ o.size + (ndsL l).length ≤ maxSl ∧ ∃ d, ∀ x ∈ l, fitN d x) (K (.exit 0) [.str (o ++ bk (ndsL l))] [])
    | _, _ => False
noncomputable def conLo8 (k : Nat) : Con := conP [.row .node] fun (l : List Nd) => { pre := some (szNds l < k), res := .bool (lonNds l) }
noncomputable def cxLo8 (k : Nat) : Cx := cxT (tabLook [(21, conLo8 k)])
noncomputable def lsLo8 (k : Nat) : LS where
  keep := [(7, .as), (8, .as), (9, .as)]
  left := [(2, .as)]
  sum := fun vs bs K => match vs, bs with
    | [.row .node l, .int .i64 m, .int .i64 i], [] => Rq (m = l.length ∧ i = 0 ∧ l.length ≤ maxSl ∧ szNds l < k + 1) (Br (lonNds l) (K .ret [.bool true] []) (K (.exit 0) [.any] []))
    | _, _ => False
def lsLoA : LS where
  keep := [(7, .as), (8, .as), (9, .as), (23, .as), (24, .as), (25, .as)]
  left := [(7, .as), (8, .as), (9, .as), (2, .as)]
  sum := fun vs bs K => match vs, bs with
    | [.row .node l, .int .i64 m, .int .i64 j, .row .attr a, .int .i64 q, .int .i64 i], [] => Rq (q = a.length ∧ i = 0 ∧ a.length ≤ maxSl) (Br (a.any bigA) (K .ret [.row .node l, .int .i64 m, .int .i64 j, .bool true] []) (K (.exit 2) [.row .node l, .int .i64 m, .int .i64 j, .any] []))
    | _, _ => False
def conPn8' : Con := conP [.row .node] fun (l : List Nd) => { pre := some (bndNds l ∧ l.length ≤ 300 ∧ (bytesL l).length ≤ maxSl ∧ ∃ d, ∀ x ∈ l, fitN d x), res := .str (bk (bytesL l)) }
def conLo8' : Con := conP [.row .node] fun (l : List Nd) => { res := .bool (lonNds l) }
noncomputable def cxBy8 : Cx := cxT (tabLook [(20, conCk8), (21, conLo8'), (22, conPn8')])
def conBy8 : Con := conP [.row .node] fun (l : List Nd) => { pre := some (fineNds l), res := .tup [.str (bytS l), .int .i64 (bytE l)] }
noncomputable def cxTw8 : Cx := cxT (tabLook [(5, conLg8), (6, conT8), (7, conByts), (8, conBy8)])
def conTw8 : Con := conP [.row .node] fun (_ : List Nd) => { res := .bool true }
end Go.Proofs.YtpbpabadbipfdaaGreatDoor.AX
end
section
namespace Go.Proofs.YtpbpabadbipfdaaGreatDoor.AX
open Go AXP
set_option maxRecDepth 100000
theorem vcSz1B (k x : Int) (K : Ex → List AV → List Blk → Prop) : (bodyA cx0 (LL Tryz.f64 [lsSz1]) Tryz.f64.ntmps (loopAt Tryz.f64 0).1 (loopAt Tryz.f64 0).2 lsSz1.keep lsSz1.left K [.int .i64 k, .int .i64 x] []) = (
Br (decide (x > (0 : Int)))
  (Rq ((256 : Int) ≠ (0 : Int))
    (K Ex.norm
      [AV.int IntKind.i64 (IntKind.i64.wrap (k + (1 : Int))),
        AV.int IntKind.i64 (IntKind.i64.wrap (x.tdiv (256 : Int)))]
      []))
  (K (Ex.exit (0 : Nat)) [AV.int IntKind.i64 k] [])) := by kernel_rfl
theorem vcSz1F (n : Int) (Q : List AV → List Blk → List Blk → Prop) : (funA cx0 (LL Tryz.f64 [lsSz1]) Tryz.f64 [.int .i64 n] [] [] Q) = (
Rq ((0 : Int) = (0 : Int) ∧ n ≤ (1099511627776 : Int)) (Q [AV.int IntKind.i64 (↑(b256 n.toNat).length : Int)] [] [])) := by kernel_rfl
theorem vcPl1B (n x : Int) (o : ByteArray) (K : Ex → List AV → List Blk → Prop) : (bodyA cxPl1 (LL Tryz.f47 [lsPl1]) Tryz.f47.ntmps (loopAt Tryz.f47 0).1 (loopAt Tryz.f47 0).2 lsPl1.keep lsPl1.left K [.int .i64 n, .str o, .int .i64 x] []) = (
Br (decide (x > (0 : Int)))
  (Rq ((256 : Int) ≠ (0 : Int))
    (Rq ([IntKind.u8.wrap (x.tmod (256 : Int))].length ≤ maxSl)
      (Rq ((strOf [IntKind.u8.wrap (x.tmod (256 : Int))]).size + o.size ≤ maxSl)
        (Rq ((256 : Int) ≠ (0 : Int))
          (K Ex.norm
            [AV.int IntKind.i64 n, AV.str (strOf [IntKind.u8.wrap (x.tmod (256 : Int))] ++ o),
              AV.int IntKind.i64 (IntKind.i64.wrap (x.tdiv (256 : Int)))]
            [])))))
  (K (Ex.exit (0 : Nat)) [AV.int IntKind.i64 n, AV.str o] [])) := by kernel_rfl
theorem vcPl1F (n : Int) (Q : List AV → List Blk → List Blk → Prop) : (funA cxPl1 (LL Tryz.f47 [lsPl1]) Tryz.f47 [.int .i64 n] [] [] Q) = (
Rq (n = n ∧ (ByteArray.mk (Array.mk [])).size = (0 : Nat) ∧ n ≤ (1099511627776 : Int))
  (Rq (n ≤ (1099511627776 : Int))
    (Rq ([IntKind.u8.wrap (↑(b256 n.toNat).length : Int)].length ≤ maxSl)
      (Rq ((strOf [IntKind.u8.wrap (↑(b256 n.toNat).length : Int)]).size + (bk (b256 n.toNat)).size ≤ maxSl)
        (Q [AV.str (strOf [IntKind.u8.wrap (↑(b256 n.toNat).length : Int)] ++ bk (b256 n.toNat))] [] []))))) := by kernel_rfl
theorem vcTx8F (s : ByteArray) (Q : List AV → List Blk → List Blk → Prop) : (funA cxTx8 (LL Tryz.f65 []) Tryz.f65 [.str s] [] [] Q) = (
Rq ((↑s.size : Int) ≤ (1099511627776 : Int))
  (Rq ((plN (↑s.size : Int)).size + s.size ≤ maxSl) (Gv (s.size ≤ maxSl) (Q [AV.str (plN (↑s.size : Int) ++ s)] [] [])))) := by kernel_rfl
theorem vcNo8B (k : Nat) (n : Nd) (o : ByteArray) (a : List At) (q i : Int) (K : Ex → List AV → List Blk → Prop) : (bodyA (cxNo8 k) (LL Tryz.f48 [lsNo8]) Tryz.f48.ntmps (loopAt Tryz.f48 0).1 (loopAt Tryz.f48 0).2 lsNo8.keep lsNo8.left K [.ptr 0 0, .str o, .row .attr a, .int .i64 q, .int .i64 i] [.box (nodeL n)]) = (
Br (decide (i < q))
  (Rq ((0 : Int) ≤ i ∧ i < (↑a.length : Int))
    (Rq ((rd Ty.attr a i).1.size ≤ (1000000 : Nat))
      (Rq (o.size + (bk (txtL (kb (rd Ty.attr a i).1))).size ≤ maxSl)
        (Rq ((rd Ty.attr a i).2.size ≤ (1000000 : Nat))
          (Rq ((o ++ bk (txtL (kb (rd Ty.attr a i).1))).size + (bk (txtL (kb (rd Ty.attr a i).2))).size ≤ maxSl)
            (K Ex.norm
              [AV.ptr (0 : Nat) (0 : Nat),
                AV.str (o ++ bk (txtL (kb (rd Ty.attr a i).1)) ++ bk (txtL (kb (rd Ty.attr a i).2))), AV.row Ty.attr a,
                AV.int IntKind.i64 q, AV.int IntKind.i64 (IntKind.i64.wrap (i + (1 : Int)))]
              [Blk.box
                  [AV.int IntKind.i64 n.1, AV.int IntKind.i64 n.2, AV.str n.3, AV.row Ty.attr n.4, AV.str n.5,
                    AV.row Ty.node n.6]]))))))
  (K (Ex.exit (0 : Nat)) [AV.ptr (0 : Nat) (0 : Nat), AV.str o]
    [Blk.box
        [AV.int IntKind.i64 n.1, AV.int IntKind.i64 n.2, AV.str n.3, AV.row Ty.attr n.4, AV.str n.5,
          AV.row Ty.node n.6]])) := by kernel_rfl
theorem vcNo8F (k : Nat) (n : Nd) (Q : List AV → List Blk → List Blk → Prop) : (funA (cxNo8 k) (LL Tryz.f48 [lsNo8]) Tryz.f48 [.agg (nodeL n)] [] [] Q) = (
Rq (n.1 ≤ (1099511627776 : Int))
  (Br (leafB (Nd.mk n.1 n.2 n.3 n.4 n.5 n.6))
    (Rq (n.5.size ≤ (1000000 : Nat))
      (Rq ((plN n.1).size + (bk (txtL (kb n.5))).size ≤ maxSl) (Q [AV.str (plN n.1 ++ bk (txtL (kb n.5)))] [] [])))
    (Rq (n.2 ≤ (1099511627776 : Int))
      (Rq ((plN n.1).size + (plN n.2).size ≤ maxSl)
        (Rq (n.3.size ≤ (1000000 : Nat))
          (Rq ((plN n.1 ++ plN n.2).size + (bk (txtL (kb n.3))).size ≤ maxSl)
            (Rq ((↑n.4.length : Int) ≤ (1099511627776 : Int))
              (Rq ((plN n.1 ++ plN n.2 ++ bk (txtL (kb n.3))).size + (plN (↑n.4.length : Int)).size ≤ maxSl)
                (Gv (n.4.length ≤ maxSl)
                  (Gv (n.4.length ≤ maxSl)
                    (Rq
                      ((↑n.4.length : Int) = (↑n.4.length : Int) ∧
                        (0 : Int) = (0 : Int) ∧
                          n.4.length ≤ maxSl ∧
                            (plN n.1 ++ plN n.2 ++ bk (txtL (kb n.3)) ++ plN (↑n.4.length : Int)).size +
                                  (attL n.4).length ≤
                                maxSl ∧
                              ∀ (x : den Ty.attr),
                                x ∈ n.attrs → x.name.size ≤ (5000 : Nat) ∧ x.value.size ≤ (5000 : Nat))
                      (Rq
                        (szNds n.6 < k ∧
                          bndNds n.6 ∧
                            n.6.length ≤ (300 : Nat) ∧
                              (bytesL n.6).length ≤ maxSl ∧ ∃ d, ∀ (x : Nd), x ∈ n.kids → fitN d x)
                        (Rq
                          ((plN n.1 ++ plN n.2 ++ bk (txtL (kb n.3)) ++ plN (↑n.4.length : Int) ++ bk (attL n.4)).size +
                              (bk (bytesL n.6)).size ≤
                            maxSl)
                          (Q
                            [AV.str
                                (plN n.1 ++ plN n.2 ++ bk (txtL (kb n.3)) ++ plN (↑n.4.length : Int) ++ bk (attL n.4) ++
                                  bk (bytesL n.6))]
                            [] [])))))))))))))) := by kernel_rfl
theorem vcPn8B (k : Nat) (o : ByteArray) (l : List Nd) (m i : Int) (K : Ex → List AV → List Blk → Prop) : (bodyA (cxPn8 k) (LL Tryz.f22 [lsPn8 k]) Tryz.f22.ntmps (loopAt Tryz.f22 0).1 (loopAt Tryz.f22 0).2 (lsPn8 k).keep (lsPn8 k).left K [.str o, .row .node l, .int .i64 m, .int .i64 i] []) = (
Br (decide (i < m))
  (Rq ((0 : Int) ≤ i ∧ i < (↑l.length : Int))
    (Rq
      (szNds (rd Ty.node l i).6 < k ∧
        bndNd
            (Nd.mk (rd Ty.node l i).1 (rd Ty.node l i).2 (rd Ty.node l i).3 (rd Ty.node l i).4 (rd Ty.node l i).5
              (rd Ty.node l i).6) ∧
          (ndL
                  (Nd.mk (rd Ty.node l i).1 (rd Ty.node l i).2 (rd Ty.node l i).3 (rd Ty.node l i).4 (rd Ty.node l i).5
                    (rd Ty.node l i).6)).length ≤
              maxSl ∧
            ∃ d,
              fitN d
                (Nd.mk (rd Ty.node l i).1 (rd Ty.node l i).2 (rd Ty.node l i).3 (rd Ty.node l i).4 (rd Ty.node l i).5
                  (rd Ty.node l i).6))
      (Rq
        (o.size +
            (bk
                (ndL
                  (Nd.mk (rd Ty.node l i).1 (rd Ty.node l i).2 (rd Ty.node l i).3 (rd Ty.node l i).4 (rd Ty.node l i).5
                    (rd Ty.node l i).6))).size ≤
          maxSl)
        (K Ex.norm
          [AV.str
              (o ++
                bk
                  (ndL
                    (Nd.mk (rd Ty.node l i).1 (rd Ty.node l i).2 (rd Ty.node l i).3 (rd Ty.node l i).4
                      (rd Ty.node l i).5 (rd Ty.node l i).6))),
            AV.row Ty.node l, AV.int IntKind.i64 m, AV.int IntKind.i64 (IntKind.i64.wrap (i + (1 : Int)))]
          []))))
  (K (Ex.exit (0 : Nat)) [AV.str o] [])) := by kernel_rfl
theorem vcPn8F (k : Nat) (l : List Nd) (Q : List AV → List Blk → List Blk → Prop) : (funA (cxPn8 k) (LL Tryz.f22 [lsPn8 k]) Tryz.f22 [.row .node l] [] [] Q) = (
Rq ((↑l.length : Int) ≤ (1099511627776 : Int))
  (Gv (l.length ≤ maxSl)
    (Gv (l.length ≤ maxSl)
      (Rq
        ((↑l.length : Int) = (↑l.length : Int) ∧
          (0 : Int) = (0 : Int) ∧
            l.length ≤ maxSl ∧
              szNds l < k + (1 : Nat) ∧
                bndNds l ∧
                  (plN (↑l.length : Int)).size + (ndsL l).length ≤ maxSl ∧ ∃ d, ∀ (x : den Ty.node), x ∈ l → fitN d x)
        (Q [AV.str (plN (↑l.length : Int) ++ bk (ndsL l))] [] []))))) := by kernel_rfl
theorem vcLo8B (k : Nat) (l : List Nd) (m i : Int) (K : Ex → List AV → List Blk → Prop) : (bodyA (cxLo8 k) (LL Tryz.f21 [lsLo8 k, lsLoA]) Tryz.f21.ntmps (loopAt Tryz.f21 0).1 (loopAt Tryz.f21 0).2 (lsLo8 k).keep (lsLo8 k).left K [.row .node l, .int .i64 m, .int .i64 i] []) = (
Br (decide (i < m))
  (Rq ((0 : Int) ≤ i ∧ i < (↑l.length : Int))
    (Br (decide ((↑(rd Ty.node l i).5.size : Int) > (65536 : Int)))
      (Gv ((rd Ty.node l i).5.size ≤ maxSl) (K Ex.ret [AV.bool true] []))
      (Rq (szNds (rd Ty.node l i).6 < k)
        (Gv ((rd Ty.node l i).5.size ≤ maxSl)
          (Br (lonNds (rd Ty.node l i).6) (K Ex.ret [AV.bool true] [])
            (Gv ((rd Ty.node l i).4.length ≤ maxSl)
              (Rq
                ((↑(rd Ty.node l i).4.length : Int) = (↑(rd Ty.node l i).4.length : Int) ∧
                  (0 : Int) = (0 : Int) ∧ (rd Ty.node l i).4.length ≤ maxSl)
                (Br ((rd Ty.node l i).4.any bigA) (K Ex.ret [AV.bool true] [])
                  (K Ex.norm
                    [AV.row Ty.node l, AV.int IntKind.i64 m, AV.int IntKind.i64 (IntKind.i64.wrap (i + (1 : Int)))]
                    [])))))))))
  (K (Ex.exit (0 : Nat)) [AV.any] [])) := by kernel_rfl
theorem vcLo8A (k : Nat) (l : List Nd) (a : List At) (m j q i : Int) (K : Ex → List AV → List Blk → Prop) : (bodyA (cxLo8 k) (LL Tryz.f21 [lsLo8 k, lsLoA]) Tryz.f21.ntmps (loopAt Tryz.f21 1).1 (loopAt Tryz.f21 1).2 lsLoA.keep lsLoA.left K [.row .node l, .int .i64 m, .int .i64 j, .row .attr a, .int .i64 q, .int .i64 i] []) = (
Br (decide (i < q))
  (Rq ((0 : Int) ≤ i ∧ i < (↑a.length : Int))
    (Gv ((rd Ty.attr a i).2.size ≤ maxSl)
      (Br (decide ((↑(rd Ty.attr a i).2.size : Int) > (65536 : Int)))
        (K Ex.ret [AV.row Ty.node l, AV.int IntKind.i64 m, AV.int IntKind.i64 j, AV.bool true] [])
        (K Ex.norm
          [AV.row Ty.node l, AV.int IntKind.i64 m, AV.int IntKind.i64 j, AV.row Ty.attr a, AV.int IntKind.i64 q,
            AV.int IntKind.i64 (IntKind.i64.wrap (i + (1 : Int)))]
          []))))
  (K (Ex.exit (2 : Nat)) [AV.row Ty.node l, AV.int IntKind.i64 m, AV.int IntKind.i64 j, AV.any] [])) := by kernel_rfl
theorem vcLo8F (k : Nat) (l : List Nd) (Q : List AV → List Blk → List Blk → Prop) : (funA (cxLo8 k) (LL Tryz.f21 [lsLo8 k, lsLoA]) Tryz.f21 [.row .node l] [] [] Q) = (
Gv (l.length ≤ maxSl)
  (Rq ((↑l.length : Int) = (↑l.length : Int) ∧ (0 : Int) = (0 : Int) ∧ l.length ≤ maxSl ∧ szNds l < k + (1 : Nat))
    (Br (lonNds l) (Q [AV.bool true] [] []) (Q [AV.bool false] [] [])))) := by kernel_rfl
theorem vcBy8F (l : List Nd) (Q : List AV → List Blk → List Blk → Prop) : (funA cxBy8 (LL Tryz.f8 []) Tryz.f8 [.row .node l] [] [] Q) = (
Rq (fineNds l)
  (Br (checkS l != (0 : Int)) (Q [AV.str (ByteArray.mk (Array.mk [])), AV.int IntKind.i64 (checkS l)] [] [])
    (Br (lonNds l) (Q [AV.str (ByteArray.mk (Array.mk [])), AV.int IntKind.i64 (2 : Int)] [] [])
      (Rq (bndNds l ∧ l.length ≤ (300 : Nat) ∧ (bytesL l).length ≤ maxSl ∧ ∃ d, ∀ (x : Nd), x ∈ l → fitN d x)
        (Q [AV.str (bk (bytesL l)), AV.int IntKind.i64 (0 : Int)] [] []))))) := by kernel_rfl
theorem vcTw8F (l : List Nd) (Q : List AV → List Blk → List Blk → Prop) : (funA cxTw8 (LL Tryz.f3 []) Tryz.f3 [.row .node l] [] [] Q) = (
Br (largeM (1200 : Int) l) (Q [AV.bool true] [] [])
  (Rq (fineNds l)
    (Rq (fineNds l)
      (Br (eqS (bytS l) (bytS l)) (Br (bytE l == bytE l) (Q [AV.bool true] [] []) (Q [AV.bool false] [] []))
        (Q [AV.bool false] [] []))))) := by kernel_rfl
end Go.Proofs.YtpbpabadbipfdaaGreatDoor.AX
end
section
namespace Go.Proofs.YtpbpabadbipfdaaGreatDoor.AXP
open Go Go.Proofs.YtpbpabadbipfdaaGreatDoor.AX
theorem b256_up {x : Int} (h : x > 0) : b256 x.toNat = b256 (x / 256).toNat ++ [UInt8.ofNat (x.toNat % 256)] := by
  rw [b256_eq x.toNat, if_neg (by omega), show (x / 256).toNat = x.toNat / 256 by omega]
theorem b256_no {x : Int} (h : ¬ x > 0) : b256 x.toNat = [] := by
  rw [show x.toNat = 0 by omega]; rfl
theorem txtL_len {s : ByteArray} (h : s.size ≤ 1000000) : (txtL (kb s)).length ≤ s.size + 7 := by
  unfold txtL
  have := numL_le (n := (kb s).length) (by rw [kb_size]; omega)
  rw [List.length_append, kb_size] at *; omega
theorem plN_eq (n : Nat) : plN (n : Int) = bk (numL n) := by unfold plN; rw [Int.toNat_natCast]
theorem bk_app (a b : List UInt8) : bk a ++ bk b = bk (a ++ b) := kb_inj (by rw [kb_app, kb_bk, kb_bk, kb_bk])
theorem txR_eq (s : ByteArray) : plN s.size ++ s = bk (txtL (kb s)) := by
  apply kb_inj
  rw [kb_app, plN_eq, kb_bk, kb_bk]
  unfold txtL
  rw [kb_size]
theorem attL_cons (a : At) (l : List At) : attL (a :: l) = txtL (kb a.name) ++ txtL (kb a.value) ++ attL l := by rw [attL]
theorem fit_kind {d : Nat} {n : Nd} (h : fitN d n) : (∃ j : Nat, n.kind = j ∧ j ≤ 3) ∧ (leafB n = false → (∃ j : Nat, n.space = j ∧ j ≤ 2)) := by
  rw [fitN_eq] at h
  refine ⟨h.1, fun hl => ?_⟩
  have h2 := h.2
  rw [if_neg (by rw [hl]; decide)] at h2
  exact h2.1
theorem ndsL_cons (n : Nd) (l : List Nd) : ndsL (n :: l) = ndL n ++ ndsL l := by rw [ndsL]
end Go.Proofs.YtpbpabadbipfdaaGreatDoor.AXP
namespace Go.Proofs.YtpbpabadbipfdaaGreatDoor.AX
open Go AXP
set_option maxRecDepth 100000
theorem sz1_sum : SumOK cx0 (LL Tryz.f64 [lsSz1]) Tryz.f64.ntmps (loopAt Tryz.f64 0).1 (loopAt Tryz.f64 0).2 lsSz1 := by
  intro vs bs K hs
  unfold lsSz1 at hs
  simp only at hs
  split at hs
  case h_2 => exact hs.elim
  rename_i k x
  obtain ⟨⟨rfl, hx⟩, h⟩ := hs
  have h6 := b256_le6 (n := x.toNat) (by omega)
  refine sum_rec (σ := Nat × Int) (fun s => [.int .i64 (s.1 : Nat), .int .i64 s.2]) (fun _ => []) (fun s => s.1 + (b256 s.2.toNat).length = (b256 x.toNat).length ∧ s.2 ≤ 1099511627776) (fun s => s.2.toNat) ?_ (0, x) ⟨by simp, hx⟩
  rintro ⟨k, y⟩ ⟨h1, h2⟩ R hR
  dsimp only at h1 h2 hR ⊢
  refine Eq.mpr (vcSz1B k y _) ⟨fun q => ?_, fun q => ?_⟩
  · have q : y > 0 := of_decide_eq_true q
    rw [b256_up q, List.length_append, List.length_cons, List.length_nil] at h1
    have e1 : IntKind.i64.wrap ((k : Int) + 1) = ((k + 1 : Nat) : Int) := by rw [wrap_id'] <;> omega
    have e2 : IntKind.i64.wrap (y.tdiv 256) = y / 256 := by rw [Int.tdiv_eq_ediv_of_nonneg (by omega), wrap_id'] <;> omega
    rw [e1, e2]
    exact Rq.mk (by decide) (hR (k + 1, y / 256) ⟨by dsimp only; omega, by dsimp only; omega⟩ (by dsimp only; omega))
  · have q : ¬ y > 0 := of_decide_eq_false q
    rw [b256_no q, List.length_nil, Nat.add_zero] at h1
    rw [h1]
    exact h
theorem sz1_holds : Holds 64 conSz1 := conP_holds fun n => by
  rcases (show ∃ w : Int, w = n from ⟨_, rfl⟩) with ⟨n, rfl⟩
  refine fun_meets1 tok0 [] lsSz1 (by kernel_rfl) (by kernel_rfl) sz1_sum fun hpre => Eq.mpr (vcSz1F n _) ?_
  have hn : n ≤ 1099511627776 := hpre _ rfl
  exact Rq.mk ⟨rfl, hn⟩ (qfin rfl rfl rfl rfl)
theorem pl1_sum : SumOK cxPl1 (LL Tryz.f47 [lsPl1]) Tryz.f47.ntmps (loopAt Tryz.f47 0).1 (loopAt Tryz.f47 0).2 lsPl1 := by
  intro vs bs K hs
  unfold lsPl1 at hs
  simp only at hs
  split at hs
  case h_2 => exact hs.elim
  rename_i n o x
  obtain ⟨⟨rfl, ho, hx⟩, h⟩ := hs
  have ho : o = bk [] := kb_inj (List.eq_nil_of_length_eq_zero (by rw [kb_size]; exact ho))
  subst ho
  have h6 := b256_le6 (n := x.toNat) (by omega)
  refine sum_rec (σ := ByteArray × Int) (fun s => [.int .i64 x, .str s.1, .int .i64 s.2]) (fun _ => []) (fun s => bk (b256 s.2.toNat) ++ s.1 = bk (b256 x.toNat) ∧ s.2 ≤ 1099511627776) (fun s => s.2.toNat) ?_ (bk [], x) ⟨kb_inj (by rw [kb_app, kb_bk, kb_bk, List.append_nil]), hx⟩
  rintro ⟨o, y⟩ ⟨h1, h2⟩ R hR
  dsimp only at h1 h2 hR ⊢
  have hsz := congrArg ByteArray.size h1
  rw [ByteArray.size_append, bk_size, bk_size] at hsz
  refine Eq.mpr (vcPl1B x y o _) ⟨fun q => ?_, fun q => ?_⟩
  · have q : y > 0 := of_decide_eq_true q
    have e0 : y.tmod 256 = y % 256 := Int.tmod_eq_emod_of_nonneg (by omega)
    have e1 : IntKind.u8.wrap (y % 256) = y % 256 := by rw [IntKind.wrap_u8]; omega
    have e2 : IntKind.i64.wrap (y.tdiv 256) = y / 256 := by rw [Int.tdiv_eq_ediv_of_nonneg (by omega), wrap_id'] <;> omega
    rw [e0, e1, e2]
    rw [b256_up q] at h1 hsz
    rw [List.length_append, List.length_cons, List.length_nil] at hsz
    have hmx : maxSl = 140737488355328 := rfl
    refine Rq.mk (by decide) (Rq.mk (show 1 ≤ maxSl by decide) (Rq.mk ?_ (Rq.mk (by decide) (hR (strOf [y % 256] ++ o, y / 256) ⟨?_, by dsimp only; omega⟩ (by dsimp only; omega)))))
    · show 1 + o.size ≤ maxSl
      omega
    · dsimp only
      rw [← h1]
      apply kb_inj
      rw [kb_app, kb_app, kb_app, kb_bk, kb_bk, kb_strOf1, show (y % 256).toNat = y.toNat % 256 by omega, List.append_assoc]
  · have q : ¬ y > 0 := of_decide_eq_false q
    rw [b256_no q] at h1
    have h1 : o = bk (b256 x.toNat) := by
      rw [← h1]; apply kb_inj; rw [kb_app, kb_bk]; rfl
    rw [h1]
    exact h
theorem pl1_holds : Holds 47 conPl1 := conP_holds fun n => by
  rcases (show ∃ w : Int, w = n from ⟨_, rfl⟩) with ⟨n, rfl⟩
  refine fun_meets1 (AllH.tok (.cons sz1_holds (by kernel_rfl) .nil)) [] lsPl1 (by kernel_rfl) (by kernel_rfl) pl1_sum fun hpre => Eq.mpr (vcPl1F n _) ?_
  have hn : n ≤ 1099511627776 := hpre _ rfl
  have h6 := b256_le6 (n := n.toNat) (by omega)
  have hmx : maxSl = 140737488355328 := rfl
  refine Rq.mk ⟨rfl, rfl, hn⟩ (Rq.mk hn (Rq.mk (show 1 ≤ maxSl by decide) (Rq.mk ?_ (qfin rfl ?_ rfl rfl))))
  · rw [bk_size]
    show 1 + _ ≤ maxSl
    omega
  · have := num_step (n := n.toNat) (by omega)
    rw [bk_size] at this
    show [AV.str _] = [AV.str (plN n)]
    rw [this]; rfl
theorem tx8_holds : Holds 65 conTx8 := conP_holds fun s => by
  rcases (show ∃ w : ByteArray, w = s from ⟨_, rfl⟩) with ⟨s, rfl⟩
  refine fun_meets0 (AllH.tok (.cons pl1_holds (by kernel_rfl) .nil)) [] (by kernel_rfl) (by kernel_rfl) fun hpre => Eq.mpr (vcTx8F s _) ?_
  have hs : s.size ≤ 1000000 := hpre _ rfl
  have h7 := numL_le (n := s.size) (by omega)
  have hmx : maxSl = 140737488355328 := rfl
  have hz : (plN (s.size : Int)).size ≤ 7 := by rw [plN_eq, bk_size]; exact h7
  refine Rq.mk (by omega) (Rq.mk (by omega) ⟨fun _ => qfin rfl ?_ rfl rfl⟩)
  show [AV.str _] = [AV.str _]
  rw [txR_eq]
theorem no8_sum (k : Nat) : SumOK (cxNo8 k) (LL Tryz.f48 [lsNo8]) Tryz.f48.ntmps (loopAt Tryz.f48 0).1 (loopAt Tryz.f48 0).2 lsNo8 := by
  intro vs bs K hs
  unfold lsNo8 at hs
  simp only at hs
  split at hs
  case h_2 => exact hs.elim
  rename_i o a q i c0 c1 c2 c3 c4 c5
  rcases (show ∃ w : List At, w = a from ⟨_, rfl⟩) with ⟨a, rfl⟩
  obtain ⟨⟨rfl, rfl, hl, hsz, hb⟩, h⟩ := hs
  refine sum_rec (σ := Nat × ByteArray) (fun s => [.ptr 0 0, .str s.2, .row .attr a, .int .i64 a.length, .int .i64 (s.1 : Nat)]) (fun _ => [.box (nodeL ⟨c0, c1, c2, c3, c4, c5⟩)]) (fun s => s.1 ≤ a.length ∧ s.2 ++ bk (attL (a.drop s.1)) = o ++ bk (attL a)) (fun s => a.length - s.1) ?_ (0, o) ⟨Nat.zero_le _, rfl⟩
  rintro ⟨i, b⟩ ⟨hi, he⟩ R hR
  dsimp only at hi he hR ⊢
  have hz := congrArg ByteArray.size he
  rw [ByteArray.size_append, ByteArray.size_append, bk_size, bk_size] at hz
  refine Eq.mpr (vcNo8B k ⟨c0, c1, c2, c3, c4, c5⟩ b a a.length i _) ⟨fun h1 => ?_, fun h1 => ?_⟩
  · have hlt : i < a.length := by have := of_decide_eq_true h1; omega
    rw [rd_atA hlt]
    rw [List.drop_eq_getElem_cons hlt, attL_cons] at he hz
    simp only [List.length_append] at hz
    have hx := hb _ (List.getElem_mem hlt)
    rw [wrap_succ hlt hl]
    refine Rq.mk ⟨by omega, by omega⟩ (Rq.mk (by show a[i].name.size ≤ _; omega) (Rq.mk ?_ (Rq.mk (by show a[i].value.size ≤ _; omega) (Rq.mk ?_ ?_))))
    · rw [bk_size]; show b.size + (txtL (kb a[i].name)).length ≤ _; omega
    · rw [ByteArray.size_append, bk_size, bk_size]; show b.size + (txtL (kb a[i].name)).length + (txtL (kb a[i].value)).length ≤ _; omega
    · refine hR (i + 1, b ++ bk (txtL (kb a[i].name)) ++ bk (txtL (kb a[i].value))) ⟨hlt, ?_⟩ (by dsimp only; omega)
      dsimp only
      rw [← he]
      apply kb_inj
      simp only [kb_app, kb_bk, List.append_assoc]
  · have hge : a.length ≤ i := by have := of_decide_eq_false h1; omega
    rw [List.drop_of_length_le hge] at he
    have : b = o ++ bk (attL a) := by rw [← he]; apply kb_inj; rw [kb_app, kb_bk]; simp [attL]
    rw [this]
    exact h
theorem no8_of (k : Nat) (hp : Holds 22 (conPn8 k)) : Holds 48 (conNo8 k) := conP_holds fun n => by
  rcases (show ∃ w : Nd, w = n from ⟨_, rfl⟩) with ⟨n, rfl⟩
  refine fun_meets1 (AllH.tok (.cons pl1_holds (by kernel_rfl) (.cons lf8_holds (by kernel_rfl) (.cons tx8_holds (by kernel_rfl) (.cons hp (by kernel_rfl) .nil))))) [] lsNo8 (by kernel_rfl) (by kernel_rfl) (no8_sum k) fun hpre => Eq.mpr (vcNo8F k n _) ?_
  obtain ⟨h1, h2, h3, d, h4⟩ : szNds n.kids < k ∧ bndNd n ∧ (ndL n).length ≤ maxSl ∧ ∃ d, fitN d n := hpre _ rfl
  obtain ⟨⟨j, hj, hj3⟩, hsp⟩ := fit_kind h4
  rw [bndNd_eq] at h2
  obtain ⟨⟨b1, b2, b3, b4⟩, b5⟩ := h2
  have hL := ndL_eq n
  have hj : n.1 = j := hj
  simp only [nd_eta]
  refine Rq.mk (by omega) ⟨fun hl => ?_, fun hl => ?_⟩
  · rw [if_pos hl] at hL
    rw [hL, List.length_append] at h3
    refine Rq.mk (by show n.text.size ≤ _; omega) (Rq.mk ?_ (qfin rfl ?_ rfl rfl))
    · rw [bk_size]; unfold plN; rw [bk_size]; exact h3
    · show _ = [AV.str (bk (ndL n))]
      rw [hL]
      unfold plN
      rw [bk_app]
  · rw [if_neg (by rw [hl]; decide)] at hL
    obtain ⟨i, hi, hi2⟩ := hsp hl
    have hi : n.2 = i := hi
    obtain ⟨hc, e, he, hk⟩ := fitN_kids h4 hl
    rw [hL] at h3
    simp only [List.length_append] at h3
    have h3' : (numL n.1.toNat).length + ((numL n.2.toNat).length + (txtL (kb n.3)).length + (numL n.4.length).length + (attL n.4).length + (bytesL n.6).length) ≤ maxSl := h3
    have p1 : plN n.1 = bk (numL n.1.toNat) := rfl
    have p2 : plN n.2 = bk (numL n.2.toNat) := rfl
    have p4 : plN (n.4.length : Int) = bk (numL n.4.length) := plN_eq _
    rw [p1, p2, p4]
    have b3' : n.4.length ≤ 3000 := b3
    refine Rq.mk (by omega) (Rq.mk ?_ (Rq.mk (by show n.name.size ≤ _; omega) (Rq.mk ?_ (Rq.mk (by omega) (Rq.mk ?_ ⟨fun _ => ⟨fun ha => Rq.mk ⟨?_, ?_, ha, ?_, b4⟩ (Rq.mk ⟨h1, b5, hc, ?_, e, hk⟩ (Rq.mk ?_ (qfin rfl ?_ rfl rfl)))⟩⟩)))))
    · simp only [bk_size]; omega
    · simp only [ByteArray.size_append, bk_size]; omega
    · simp only [ByteArray.size_append, bk_size]; omega
    · trivial
    · trivial
    · simp only [ByteArray.size_append, bk_size]; omega
    · omega
    · simp only [ByteArray.size_append, bk_size]; omega
    · show _ = [AV.str (bk (ndL n))]
      rw [hL]
      simp only [bk_app]
      simp only [List.append_assoc]
theorem pn8_sum (k : Nat) : SumOK (cxPn8 k) (LL Tryz.f22 [lsPn8 k]) Tryz.f22.ntmps (loopAt Tryz.f22 0).1 (loopAt Tryz.f22 0).2 (lsPn8 k) := by
  intro vs bs K hs
  unfold lsPn8 at hs
  simp only at hs
  split at hs
  case h_2 => exact hs.elim
  rename_i o l m i
  rcases (show ∃ w : List Nd, w = l from ⟨_, rfl⟩) with ⟨l, rfl⟩
  obtain ⟨⟨rfl, rfl, hl, hk, hb, hsz, d, hd⟩, h⟩ := hs
  refine sum_rec (σ := Nat × ByteArray) (fun s => [.str s.2, .row .node l, .int .i64 l.length, .int .i64 (s.1 : Nat)]) (fun _ => []) (fun s => s.1 ≤ l.length ∧ s.2 ++ bk (ndsL (l.drop s.1)) = o ++ bk (ndsL l)) (fun s => l.length - s.1) ?_ (0, o) ⟨Nat.zero_le _, rfl⟩
  rintro ⟨i, b⟩ ⟨hi, he⟩ R hR
  dsimp only at hi he hR ⊢
  have hz := congrArg ByteArray.size he
  rw [ByteArray.size_append, ByteArray.size_append, bk_size, bk_size] at hz
  refine Eq.mpr (vcPn8B k b l l.length i _) ⟨fun h1 => ?_, fun h1 => ?_⟩
  · have hlt : i < l.length := by have := of_decide_eq_true h1; omega
    rw [rd_nd hlt]
    simp only [nd_eta]
    rw [List.drop_eq_getElem_cons hlt, ndsL_cons] at he hz
    rw [List.length_append] at hz
    have hz2 := sz_memT (List.getElem_mem hlt)
    rw [wrap_succ hlt hl]
    refine Rq.mk ⟨by omega, by omega⟩ (Rq.mk ⟨by omega, bnd_mem hb (List.getElem_mem hlt), by omega, d, hd _ (List.getElem_mem hlt)⟩ (Rq.mk ?_ ?_))
    · rw [bk_size]; omega
    · refine hR (i + 1, b ++ bk (ndL l[i])) ⟨hlt, ?_⟩ (by dsimp only; omega)
      dsimp only
      rw [← he]
      apply kb_inj
      simp only [kb_app, kb_bk, List.append_assoc]
  · have hge : l.length ≤ i := by have := of_decide_eq_false h1; omega
    rw [List.drop_of_length_le hge] at he
    have : b = o ++ bk (ndsL l) := by rw [← he]; apply kb_inj; rw [kb_app, kb_bk]; simp [ndsL]
    rw [this]
    exact h
theorem pn8_lt : ∀ k, Holds 22 (conPn8 k)
  | 0 => conP_holds fun l => by
    intro F I w vals _ _ hpre
    exact absurd (hpre _ rfl).1 (Nat.not_lt_zero _)
  | k + 1 => conP_holds fun l => by
    rcases (show ∃ w : List Nd, w = l from ⟨_, rfl⟩) with ⟨l, rfl⟩
    refine fun_meets1 (AllH.tok (.cons pl1_holds (by kernel_rfl) (.cons (no8_of k (pn8_lt k)) (by kernel_rfl) .nil))) [] (lsPn8 k) (by kernel_rfl) (by kernel_rfl) (pn8_sum k) fun hpre => Eq.mpr (vcPn8F k l _) ?_
    obtain ⟨h1, h2, h3, h4, d, h5⟩ : szNds l < k + 1 ∧ bndNds l ∧ l.length ≤ 300 ∧ (bytesL l).length ≤ maxSl ∧ ∃ d, ∀ x ∈ l, fitN d x := hpre _ rfl
    have p4 : plN (l.length : Int) = bk (numL l.length) := plN_eq _
    rw [p4]
    unfold bytesL at h4
    rw [List.length_append] at h4
    refine Rq.mk (by omega) ⟨fun _ => ⟨fun hm => Rq.mk ⟨rfl, rfl, hm, h1, h2, by rw [bk_size]; exact h4, d, h5⟩ (qfin rfl ?_ rfl rfl)⟩⟩
    show _ = [AV.str (bk (bytesL l))]
    rw [bk_app]; rfl
theorem pn8_holds : Holds 22 conPn8' := conP_holds fun l => by
  rcases (show ∃ w : List Nd, w = l from ⟨_, rfl⟩) with ⟨l, rfl⟩
  intro F I w vals hH hv hpre
  exact pn8_lt (szNds l + 1) [.row .node l] [] { pre := some (szNds l < szNds l + 1 ∧ bndNds l ∧ l.length ≤ 300 ∧ (bytesL l).length ≤ maxSl ∧ ∃ d, ∀ x ∈ l, fitN d x), res := .str (bk (bytesL l)) } rfl F I w vals hH hv (fun p hp => by injection hp with hp; subst hp; exact ⟨Nat.lt_succ_self _, hpre _ rfl⟩)
theorem lo8A_sum (k : Nat) : SumOK (cxLo8 k) (LL Tryz.f21 [lsLo8 k, lsLoA]) Tryz.f21.ntmps (loopAt Tryz.f21 1).1 (loopAt Tryz.f21 1).2 lsLoA := by
  intro vs bs K hs
  unfold lsLoA at hs
  simp only at hs
  split at hs
  case h_2 => exact hs.elim
  rename_i l m j a q i
  rcases (show ∃ w : List At, w = a from ⟨_, rfl⟩) with ⟨a, rfl⟩
  obtain ⟨⟨rfl, rfl, hl⟩, h⟩ := hs
  refine sum_rec (σ := Nat) (fun i => [.row .node l, .int .i64 m, .int .i64 j, .row .attr a, .int .i64 a.length, .int .i64 (i : Nat)]) (fun _ => []) (fun i => i ≤ a.length ∧ (a.drop i).any bigA = a.any bigA) (fun i => a.length - i) ?_ 0 ⟨Nat.zero_le _, rfl⟩
  rintro i ⟨hi, he⟩ R hR
  refine Eq.mpr (vcLo8A k l a m j a.length i _) ⟨fun h1 => ?_, fun h1 => ?_⟩
  · have hlt : i < a.length := by have := of_decide_eq_true h1; omega
    rw [rd_atA hlt, wrap_succ hlt hl]
    rw [List.drop_eq_getElem_cons hlt, List.any_cons] at he
    refine Rq.mk ⟨by omega, by omega⟩ ⟨fun _ => ⟨fun h2 => h.yes ?_, fun h2 => hR (i + 1) ⟨hlt, ?_⟩ (by omega)⟩⟩
    · have h2 : bigA a[i] = true := h2
      rw [h2, Bool.true_or] at he; exact he.symm
    · have h2 : bigA a[i] = false := h2
      rw [h2, Bool.false_or] at he; exact he
  · have hge : a.length ≤ i := by have := of_decide_eq_false h1; omega
    rw [List.drop_of_length_le hge] at he
    exact h.no he.symm
theorem lo8_sum (k : Nat) : SumOK (cxLo8 k) (LL Tryz.f21 [lsLo8 k, lsLoA]) Tryz.f21.ntmps (loopAt Tryz.f21 0).1 (loopAt Tryz.f21 0).2 (lsLo8 k) := by
  intro vs bs K hs
  unfold lsLo8 at hs
  simp only at hs
  split at hs
  case h_2 => exact hs.elim
  rename_i l m i
  rcases (show ∃ w : List Nd, w = l from ⟨_, rfl⟩) with ⟨l, rfl⟩
  obtain ⟨⟨rfl, rfl, hl, hk⟩, h⟩ := hs
  refine sum_rec (σ := Nat) (fun i => [.row .node l, .int .i64 l.length, .int .i64 (i : Nat)]) (fun _ => []) (fun i => i ≤ l.length ∧ lonNds (l.drop i) = lonNds l) (fun i => l.length - i) ?_ 0 ⟨Nat.zero_le _, rfl⟩
  rintro i ⟨hi, he⟩ R hR
  refine Eq.mpr (vcLo8B k l l.length i _) ⟨fun h1 => ?_, fun h1 => ?_⟩
  · have hlt : i < l.length := by have := of_decide_eq_true h1; omega
    rw [rd_nd hlt, wrap_succ hlt hl]
    rw [List.drop_eq_getElem_cons hlt, lonNds, lonNd_eq] at he
    have hz := sz_memT (List.getElem_mem hlt)
    have hd : longN l[i] = (decide ((l[i].5.size : Int) > 65536) || l[i].4.any bigA) := rfl
    rw [hd] at he
    refine Rq.mk ⟨by omega, by omega⟩ ⟨fun h2 => ⟨fun _ => h.yes ?_⟩, fun h2 => Rq.mk (by show szNds l[i].kids < k; omega) ⟨fun _ => ⟨fun h3 => h.yes ?_, fun h3 => ⟨fun ha => Rq.mk ⟨rfl, rfl, ha⟩ ⟨fun h4 => h.yes ?_, fun h4 => hR (i + 1) ⟨hlt, ?_⟩ (by omega)⟩⟩⟩⟩⟩
    · rw [h2, Bool.true_or, Bool.true_or, Bool.true_or] at he; exact he.symm
    · rw [h3, Bool.or_true, Bool.true_or] at he; exact he.symm
    · rw [h4, Bool.or_true, Bool.true_or, Bool.true_or] at he; exact he.symm
    · rw [h2, h3, h4] at he; exact he
  · have hge : l.length ≤ i := by have := of_decide_eq_false h1; omega
    rw [List.drop_of_length_le hge, lonNds] at he
    exact h.no he.symm
theorem lo8_lt : ∀ k, Holds 21 (conLo8 k)
  | 0 => conP_holds fun l => by
    intro F I w vals _ _ hpre
    exact absurd (hpre _ rfl) (Nat.not_lt_zero _)
  | k + 1 => conP_holds fun l => by
    rcases (show ∃ w : List Nd, w = l from ⟨_, rfl⟩) with ⟨l, rfl⟩
    refine fun_meets2 (AllH.tok (.cons (lo8_lt k) (by kernel_rfl) .nil)) [] (lsLo8 k) lsLoA (by kernel_rfl) (by kernel_rfl) (lo8_sum k) (lo8A_sum k) fun hpre => Eq.mpr (vcLo8F k l _) ?_
    have h1 : szNds l < k + 1 := hpre _ rfl
    have e : ∀ b, lonNds l = b → [AV.bool b] = compsOf (.bool (lonNds l)) := fun b h => by rw [h]; rfl
    exact ⟨fun hm => Rq.mk ⟨rfl, rfl, hm, h1⟩ ⟨fun h => qfin rfl (e _ h) rfl rfl, fun h => qfin rfl (e _ h) rfl rfl⟩⟩
theorem lo8_holds : Holds 21 conLo8' := conP_holds fun l => by
  rcases (show ∃ w : List Nd, w = l from ⟨_, rfl⟩) with ⟨l, rfl⟩
  intro F I w vals hH hv hpre
  exact lo8_lt (szNds l + 1) [.row .node l] [] { pre := some (szNds l < szNds l + 1), res := .bool (lonNds l) } rfl F I w vals hH hv (fun p hp => by injection hp with hp; subst hp; exact Nat.lt_succ_self _)
theorem by8_holds : Holds 8 conBy8 := conP_holds fun l => by
  rcases (show ∃ w : List Nd, w = l from ⟨_, rfl⟩) with ⟨l, rfl⟩
  refine fun_meets0 (AllH.tok (.cons ck8_holds (by kernel_rfl) (.cons lo8_holds (by kernel_rfl) (.cons pn8_holds (by kernel_rfl) .nil)))) [] (by kernel_rfl) (by kernel_rfl) fun hpre => Eq.mpr (vcBy8F l _) ?_
  have hf : fineNds l := hpre _ rfl
  have e : ∀ s b, bytS l = s → bytE l = b → [AV.str s, AV.int .i64 b] = compsOf (.tup [.str (bytS l), .int .i64 (bytE l)]) := fun s b h1 h2 => by rw [h1, h2]; rfl
  refine Rq.mk hf ⟨fun h1 => qfin rfl (e _ _ ?_ ?_) rfl rfl, fun h1 => ⟨fun h2 => qfin rfl (e _ _ ?_ ?_) rfl rfl, fun h2 => ?_⟩⟩
  · have h1 : ¬ checkS l = 0 := by simpa using h1
    have hb : bytE l = checkS l := by unfold bytE; rw [if_neg h1]
    unfold bytS; rw [hb, if_neg h1]
  · have h1 : ¬ checkS l = 0 := by simpa using h1
    unfold bytE; rw [if_neg h1]
  · have h1 : checkS l = 0 := by simpa using h1
    have hb : bytE l = 2 := by unfold bytE; rw [if_pos h1, if_pos h2]
    unfold bytS; rw [hb, if_neg (by decide)]
  · have h1 : checkS l = 0 := by simpa using h1
    unfold bytE; rw [if_pos h1, if_pos h2]
  · have h1 : checkS l = 0 := by simpa using h1
    have hb : bytE l = 0 := by unfold bytE; rw [if_pos h1, if_neg (by rw [h2]; decide)]
    obtain ⟨f1, f2⟩ := fit_all hb
    have hs := fine_put hf
    have hq : putF ⟨#[]⟩ l = bk (bytesL l) := by rw [← bytS_eq hb]; unfold bytS; rw [if_pos hb]
    rw [hq, bk_size] at hs
    exact Rq.mk ⟨hf.2, f1, hs, 40, f2⟩ (qfin rfl (e _ _ (bytS_eq hb) hb) rfl rfl)
theorem treeWrites_ax : Holds 3 conTw8 := conP_holds fun l => by
  rcases (show ∃ w : List Nd, w = l from ⟨_, rfl⟩) with ⟨l, rfl⟩
  refine fun_meets0 (AllH.tok (.cons lg8_holds (by kernel_rfl) (.cons t8_holds (by kernel_rfl) (.cons byts_holds (by kernel_rfl) (.cons by8_holds (by kernel_rfl) .nil))))) [] (by kernel_rfl) (by kernel_rfl) fun _ => Eq.mpr (vcTw8F l _) ?_
  refine ⟨fun _ => qfin rfl rfl rfl rfl, fun h1 => ?_⟩
  have hf := fine_of_large (by decide) (by decide) h1
  have b1 : eqS (bytS l) (bytS l) = true := eqS_self _
  have b2 : (bytE l == bytE l) = true := beq_self_eq_true _
  rw [b1, b2]
  exact Rq.mk hf (Rq.mk hf ⟨fun _ => ⟨fun _ => qfin rfl rfl rfl rfl, fun h => absurd h (by decide)⟩, fun h => absurd h (by decide)⟩)
end Go.Proofs.YtpbpabadbipfdaaGreatDoor.AX
end
section
namespace Go.Proofs.YtpbpabadbipfdaaGreatDoor.AXP
open Go Go.Proofs.YtpbpabadbipfdaaGreatDoor.AX
/-- Where the number at the beginning ends; -1: there is none. -/
def tkEnd (b : ByteArray) : Int := match takeN (kb b) with | some (_, r) => ((b.size - r.length : Nat) : Int) | none => -1
end Go.Proofs.YtpbpabadbipfdaaGreatDoor.AXP
namespace Go.Proofs.YtpbpabadbipfdaaGreatDoor.AX
open Go AXP
def lsNu1 : LS where
  keep := [(0, .as), (1, .as), (4, .as), (5, .as), (6, .as), (7, .as)]
  left := [(0, .as), (1, .as), (4, .as), (5, .as), (6, .as)]
  sum := fun vs bs K => match vs, bs with
    | [.str b, .int .i64 i, .ptr 0 0, .int .i64 k, .int .i64 n, .int .i64 j], [.box [.int .i64 z0, .int .i64 z1]] => Rq (i = 0 ∧ n = 0 ∧ j = 0 ∧ 0 ≤ k ∧ k ≤ 6 ∧ 1 + k ≤ b.size) (K (.exit 0) [.str b, .int .i64 0, .ptr 0 0, .int .i64 k, .int .i64 (v256 (kb (b.extract 1 (1 + k.toNat))))] [.box [.int .i64 z0, .int .i64 z1]])
    | _, _ => False
def conNu1 : Con := conP [.str, .int] fun (b : ByteArray) (i : Int) => { pre := some (i = 0), res := .agg [.int .i64 (tkN b), .int .i64 (tkEnd b)] }
noncomputable def cxTk1 : Cx := cxT (tabLook [(68, conNu1)])
def conTkN1 : Con := conP [.str] fun (b : ByteArray) => { res := .agg [.int .i64 (tkN b), .str ⟨#[]⟩, .row .str [], .str (tkR b), .int .i64 (tkE b)] }
def conTkT1 : Con := conP [.str] fun (b : ByteArray) => { res := .agg [.int .i64 0, .str (ttS b), .row .str [], .str (ttR b), .int .i64 (ttE b)] }
end Go.Proofs.YtpbpabadbipfdaaGreatDoor.AX
end
section
namespace Go.Proofs.YtpbpabadbipfdaaGreatDoor.AX
open Go AXP
set_option maxRecDepth 100000
theorem vcNu1B (b : ByteArray) (i k n j z0 z1 : Int) (K : Ex → List AV → List Blk → Prop) : (bodyA cx0 (LL Tryz.f68 [lsNu1]) Tryz.f68.ntmps (loopAt Tryz.f68 0).1 (loopAt Tryz.f68 0).2 lsNu1.keep lsNu1.left K [.str b, .int .i64 i, .ptr 0 0, .int .i64 k, .int .i64 n, .int .i64 j] [.box [.int .i64 z0, .int .i64 z1]]) = (
Br (decide (j < k))
  (Rq
    ((0 : Int) ≤ IntKind.i64.wrap (IntKind.i64.wrap (i + (1 : Int)) + j) ∧
      IntKind.i64.wrap (IntKind.i64.wrap (i + (1 : Int)) + j) < (↑b.size : Int))
    (K Ex.norm
      [AV.str b, AV.int IntKind.i64 i, AV.ptr (0 : Nat) (0 : Nat), AV.int IntKind.i64 k,
        AV.int IntKind.i64
          (IntKind.i64.wrap
            (IntKind.i64.wrap (n * (256 : Int)) +
              IntKind.i64.wrap
                (↑(b.get! (IntKind.i64.wrap (IntKind.i64.wrap (i + (1 : Int)) + j)).toNat).toNat : Int))),
        AV.int IntKind.i64 (IntKind.i64.wrap (j + (1 : Int)))]
      [Blk.box [AV.int IntKind.i64 z0, AV.int IntKind.i64 z1]]))
  (K (Ex.exit (0 : Nat))
    [AV.str b, AV.int IntKind.i64 i, AV.ptr (0 : Nat) (0 : Nat), AV.int IntKind.i64 k, AV.int IntKind.i64 n]
    [Blk.box [AV.int IntKind.i64 z0, AV.int IntKind.i64 z1]])) := by kernel_rfl
theorem vcNu1F (b : ByteArray) (Q : List AV → List Blk → List Blk → Prop) : (funA cx0 (LL Tryz.f68 [lsNu1]) Tryz.f68 [.str b, .int .i64 0] [] [] Q) = (
Br (decide ((0 : Int) ≥ (↑b.size : Int)))
  (Gv (b.size ≤ maxSl) (Q [AV.agg [AV.int IntKind.i64 (0 : Int), AV.int IntKind.i64 (-1 : Int)]] [] []))
  (Rq ((0 : Int) ≤ (0 : Int) ∧ (0 : Int) < (↑b.size : Int))
    (Gv (b.size ≤ maxSl)
      (Br (decide ((↑(b.get! (Int.toNat (0 : Int))).toNat : Int) > (6 : Int)))
        (Q [AV.agg [AV.int IntKind.i64 (0 : Int), AV.int IntKind.i64 (-1 : Int)]] [] [])
        (Rq ((0 : Int) ≤ (0 : Int) ∧ (0 : Int) < (↑b.size : Int))
          (Br
            (decide
              (IntKind.i64.wrap (↑(b.get! (Int.toNat (0 : Int))).toNat : Int) >
                IntKind.i64.wrap (IntKind.i64.wrap ((↑b.size : Int) - (0 : Int)) - (1 : Int))))
            (Gv (b.size ≤ maxSl) (Q [AV.agg [AV.int IntKind.i64 (0 : Int), AV.int IntKind.i64 (-1 : Int)]] [] []))
            (Br (decide (IntKind.i64.wrap (↑(b.get! (Int.toNat (0 : Int))).toNat : Int) > (0 : Int)))
              (Rq
                ((0 : Int) ≤ IntKind.i64.wrap ((0 : Int) + (1 : Int)) ∧
                  IntKind.i64.wrap ((0 : Int) + (1 : Int)) < (↑b.size : Int))
                (Gv (b.size ≤ maxSl)
                  (Br ((↑(b.get! (IntKind.i64.wrap ((0 : Int) + (1 : Int))).toNat).toNat : Int) == (0 : Int))
                    (Q [AV.agg [AV.int IntKind.i64 (0 : Int), AV.int IntKind.i64 (-1 : Int)]] [] [])
                    (Rq
                      ((0 : Int) = (0 : Int) ∧
                        (0 : Int) = (0 : Int) ∧
                          (0 : Int) = (0 : Int) ∧
                            (0 : Int) ≤ IntKind.i64.wrap (↑(b.get! (Int.toNat (0 : Int))).toNat : Int) ∧
                              IntKind.i64.wrap (↑(b.get! (Int.toNat (0 : Int))).toNat : Int) ≤ (6 : Int) ∧
                                (1 : Int) + IntKind.i64.wrap (↑(b.get! (Int.toNat (0 : Int))).toNat : Int) ≤
                                  (↑b.size : Int))
                      (Br
                        (decide
                          ((↑(v256
                                  (kb
                                    (b.extract (1 : Nat)
                                      ((1 : Nat) +
                                        (IntKind.i64.wrap (↑(b.get! (Int.toNat (0 : Int))).toNat : Int)).toNat)))) :
                              Int) >
                            (1099511627776 : Int)))
                        (Q [AV.agg [AV.int IntKind.i64 (0 : Int), AV.int IntKind.i64 (-1 : Int)]] [] [])
                        (Q
                          [AV.agg
                              [AV.int IntKind.i64
                                  (↑(v256
                                        (kb
                                          (b.extract (1 : Nat)
                                            ((1 : Nat) +
                                              (IntKind.i64.wrap
                                                  (↑(b.get! (Int.toNat (0 : Int))).toNat : Int)).toNat)))) :
                                    Int),
                                AV.int IntKind.i64
                                  (IntKind.i64.wrap
                                    (IntKind.i64.wrap ((0 : Int) + (1 : Int)) +
                                      IntKind.i64.wrap (↑(b.get! (Int.toNat (0 : Int))).toNat : Int)))]]
                          [] []))))))
              (Gv (b.size ≤ maxSl)
                (Rq
                  ((0 : Int) = (0 : Int) ∧
                    (0 : Int) = (0 : Int) ∧
                      (0 : Int) = (0 : Int) ∧
                        (0 : Int) ≤ IntKind.i64.wrap (↑(b.get! (Int.toNat (0 : Int))).toNat : Int) ∧
                          IntKind.i64.wrap (↑(b.get! (Int.toNat (0 : Int))).toNat : Int) ≤ (6 : Int) ∧
                            (1 : Int) + IntKind.i64.wrap (↑(b.get! (Int.toNat (0 : Int))).toNat : Int) ≤
                              (↑b.size : Int))
                  (Br
                    (decide
                      ((↑(v256
                              (kb
                                (b.extract (1 : Nat)
                                  ((1 : Nat) +
                                    (IntKind.i64.wrap (↑(b.get! (Int.toNat (0 : Int))).toNat : Int)).toNat)))) :
                          Int) >
                        (1099511627776 : Int)))
                    (Q [AV.agg [AV.int IntKind.i64 (0 : Int), AV.int IntKind.i64 (-1 : Int)]] [] [])
                    (Q
                      [AV.agg
                          [AV.int IntKind.i64
                              (↑(v256
                                    (kb
                                      (b.extract (1 : Nat)
                                        ((1 : Nat) +
                                          (IntKind.i64.wrap (↑(b.get! (Int.toNat (0 : Int))).toNat : Int)).toNat)))) :
                                Int),
                            AV.int IntKind.i64
                              (IntKind.i64.wrap
                                (IntKind.i64.wrap ((0 : Int) + (1 : Int)) +
                                  IntKind.i64.wrap (↑(b.get! (Int.toNat (0 : Int))).toNat : Int)))]]
                      [] []))))))))))) := by kernel_rfl
theorem vcTkN1F (b : ByteArray) (Q : List AV → List Blk → List Blk → Prop) : (funA cxTk1 (LL Tryz.f51 []) Tryz.f51 [.str b] [] [.as, .as, .row .str, .as, .as] Q) = (
Rq ((0 : Int) = (0 : Int))
  (Br (decide (tkEnd b < (0 : Int)))
    (Q
      [AV.agg
          [AV.int IntKind.i64 (0 : Int), AV.str (ByteArray.mk (Array.mk [])), AV.row Ty.str [],
            AV.str (ByteArray.mk (Array.mk [])), AV.int IntKind.i64 (4 : Int)]]
      [] [])
    (Rq ((0 : Int) ≤ tkEnd b ∧ tkEnd b ≤ (↑b.size : Int) ∧ (↑b.size : Int) ≤ (↑b.size : Int))
      (Q
        [AV.agg
            [AV.int IntKind.i64 (tkN b), AV.str (ByteArray.mk (Array.mk [])), AV.row Ty.str [],
              AV.str (b.extract (tkEnd b).toNat (↑b.size : Int).toNat), AV.int IntKind.i64 (0 : Int)]]
        [] [])))) := by kernel_rfl
theorem vcTkT1F (b : ByteArray) (Q : List AV → List Blk → List Blk → Prop) : (funA cxTk1 (LL Tryz.f69 []) Tryz.f69 [.str b] [] [.as, .as, .row .str, .as, .as] Q) = (
Rq ((0 : Int) = (0 : Int))
  (Br (decide (tkEnd b < (0 : Int)))
    (Q
      [AV.agg
          [AV.int IntKind.i64 (0 : Int), AV.str (ByteArray.mk (Array.mk [])), AV.row Ty.str [],
            AV.str (ByteArray.mk (Array.mk [])), AV.int IntKind.i64 (4 : Int)]]
      [] [])
    (Br (decide (tkN b > (65536 : Int)))
      (Q
        [AV.agg
            [AV.int IntKind.i64 (0 : Int), AV.str (ByteArray.mk (Array.mk [])), AV.row Ty.str [],
              AV.str (ByteArray.mk (Array.mk [])), AV.int IntKind.i64 (4 : Int)]]
        [] [])
      (Gv (b.size ≤ maxSl)
        (Br (decide (tkN b > IntKind.i64.wrap ((↑b.size : Int) - tkEnd b)))
          (Q
            [AV.agg
                [AV.int IntKind.i64 (0 : Int), AV.str (ByteArray.mk (Array.mk [])), AV.row Ty.str [],
                  AV.str (ByteArray.mk (Array.mk [])), AV.int IntKind.i64 (4 : Int)]]
            [] [])
          (Rq
            ((0 : Int) ≤ tkEnd b ∧
              tkEnd b ≤ IntKind.i64.wrap (tkEnd b + tkN b) ∧ IntKind.i64.wrap (tkEnd b + tkN b) ≤ (↑b.size : Int))
            (Rq
              ((0 : Int) ≤ IntKind.i64.wrap (tkEnd b + tkN b) ∧
                IntKind.i64.wrap (tkEnd b + tkN b) ≤ (↑b.size : Int) ∧ (↑b.size : Int) ≤ (↑b.size : Int))
              (Q
                [AV.agg
                    [AV.int IntKind.i64 (0 : Int),
                      AV.str (b.extract (tkEnd b).toNat (IntKind.i64.wrap (tkEnd b + tkN b)).toNat), AV.row Ty.str [],
                      AV.str (b.extract (IntKind.i64.wrap (tkEnd b + tkN b)).toNat (↑b.size : Int).toNat),
                      AV.int IntKind.i64 (0 : Int)]]
                [] [])))))))) := by kernel_rfl
end Go.Proofs.YtpbpabadbipfdaaGreatDoor.AX
end
section
namespace Go.Proofs.YtpbpabadbipfdaaGreatDoor.AXP
open Go Go.Proofs.YtpbpabadbipfdaaGreatDoor.AX
theorem kb_ext1 (b : ByteArray) (k : Nat) : kb (b.extract 1 (1 + k)) = ((kb b).drop 1).take k := by
  rw [kb_ext, Nat.add_comm, List.drop_take, Nat.add_sub_cancel]
theorem dOK_ext {b : ByteArray} {k : Nat} (h0 : 0 < k) (h : 1 + k ≤ b.size) : dOK (b.extract 1 (1 + k)) = !(((b.get! 1).toNat : Int) == 0) := by
  have e := kb_get (s := b) (i := 1) (by omega)
  have : (kb (b.extract 1 (1 + k))).head? = some (b.get! 1) := by
    rw [kb_ext1, List.head?_eq_getElem?, List.getElem?_take, if_pos h0, List.getElem?_drop]
    exact e
  unfold dOK
  rw [this]
  generalize b.get! 1 = x
  by_cases hx : x = 0
  · subst hx; rfl
  · have h2 : ¬ x.toNat = 0 := fun e => hx (by rw [← UInt8.ofNat_toNat (x := x), e]; rfl)
    simp [hx, h2]
end Go.Proofs.YtpbpabadbipfdaaGreatDoor.AXP
namespace Go.Proofs.YtpbpabadbipfdaaGreatDoor.AX
open Go AXP
set_option maxRecDepth 100000
theorem nu1_sum : SumOK cx0 (LL Tryz.f68 [lsNu1]) Tryz.f68.ntmps (loopAt Tryz.f68 0).1 (loopAt Tryz.f68 0).2 lsNu1 := by
  intro vs bs K hs
  unfold lsNu1 at hs
  simp only at hs
  split at hs
  case h_2 => exact hs.elim
  rename_i b i k n j z0 z1
  obtain ⟨⟨rfl, rfl, rfl, h0, h6, hsz⟩, h⟩ := hs
  obtain ⟨k, rfl⟩ := Int.eq_ofNat_of_zero_le h0
  rw [Int.toNat_natCast, kb_ext1] at h
  refine sum_rec (σ := Nat) (fun j => [.str b, .int .i64 0, .ptr 0 0, .int .i64 (k : Nat), .int .i64 (v256 (((kb b).drop 1).take j)), .int .i64 (j : Nat)]) (fun _ => [.box [.int .i64 z0, .int .i64 z1]]) (fun j => j ≤ k) (fun j => k - j) ?_ 0 (Nat.zero_le _)
  intro j hj R hR
  refine Eq.mpr (vcNu1B b 0 k _ j z0 z1 _) ⟨fun q => ?_, fun q => ?_⟩
  · have hlt : j < k := by have := of_decide_eq_true q; omega
    have e0 : IntKind.i64.wrap (IntKind.i64.wrap ((0 : Int) + 1) + (j : Int)) = ((1 + j : Nat) : Int) := by
      rw [wrap_id' (i := (0 : Int) + 1) (by omega) (by omega), wrap_id' (by omega) (by omega)]; omega
    have hb : (b.get! (1 + j)).toNat < 256 := UInt8.toNat_lt _
    have hl : (((kb b).drop 1).take j).length = j := by rw [List.length_take, List.length_drop, kb_size]; omega
    have hv := v256_lt _ (((kb b).drop 1).take j) (Nat.le_refl _)
    rw [hl] at hv
    have hv5 : v256 (((kb b).drop 1).take j) < 1099511627776 := Nat.lt_of_lt_of_le hv (Nat.le_trans (Nat.pow_le_pow_right (by decide) (show j ≤ 5 by omega)) (by decide))
    have e4 : ((kb b).drop 1).take (j + 1) = ((kb b).drop 1).take j ++ [b.get! (1 + j)] := by
      rw [List.take_add_one, List.getElem?_drop, kb_get (by omega)]; rfl
    rw [e0, Int.toNat_natCast]
    have ew : IntKind.i64.wrap (IntKind.i64.wrap ((v256 (((kb b).drop 1).take j) : Int) * 256) + IntKind.i64.wrap ((b.get! (1 + j)).toNat : Int)) = ((v256 (((kb b).drop 1).take j) * 256 + (b.get! (1 + j)).toNat : Nat) : Int) := by
      rw [wrap_id' (i := (v256 (((kb b).drop 1).take j) : Int) * 256) (by omega) (by omega), wrap_id' (i := ((b.get! (1 + j)).toNat : Int)) (by omega) (by omega), wrap_id' (by omega) (by omega)]; omega
    have ej : IntKind.i64.wrap ((j : Int) + 1) = ((j + 1 : Nat) : Int) := by rw [wrap_id'] <;> omega
    rw [ew, ej]
    have := hR (j + 1) hlt (by omega)
    rw [e4, v256_snoc] at this
    exact Rq.mk ⟨by omega, by omega⟩ this
  · have : j = k := by have := of_decide_eq_false q; omega
    subst this
    exact h
theorem nu1_holds : Holds 68 conNu1 := conP_holds fun b i => by
  rcases (show ∃ w : ByteArray, w = b from ⟨_, rfl⟩) with ⟨b, rfl⟩
  intro F I w vals hH hv hpre
  obtain rfl : i = (0 : Int) := hpre _ rfl
  refine fun_meets1 tok0 [] lsNu1 (by kernel_rfl) (by kernel_rfl) nu1_sum (fun _ => Eq.mpr (vcNu1F b _) ?_) F I w vals hH hv hpre
  have no : takeN (kb b) = none → [AV.agg [AV.int IntKind.i64 0, AV.int IntKind.i64 (-1)]] = compsOf (.agg [.int .i64 (tkN b), .int .i64 (tkEnd b)]) := fun h => by
    show _ = [AV.agg [AV.int .i64 (tkN b), AV.int .i64 (tkEnd b)]]
    unfold tkN tkEnd; rw [h]
  refine ⟨fun h => ⟨fun _ => qfin rfl (no (tk_nil (by have := of_decide_eq_true h; omega))) rfl rfl⟩, fun h => ?_⟩
  have h0 : 0 < b.size := by have := of_decide_eq_false h; omega
  have hk : (b.get! 0).toNat < 256 := UInt8.toNat_lt _
  have tk := tk_eq h0
  refine Rq.mk ⟨by omega, by omega⟩ ⟨fun hm => ?_⟩
  have e1 : IntKind.i64.wrap (↑(b.get! (Int.toNat (0 : Int))).toNat : Int) = ((b.get! 0).toNat : Int) := wrap_id' (by show (_ : Int) ≤ ((b.get! 0).toNat : Int); omega) (by show ((b.get! 0).toNat : Int) < _; omega)
  have e2 : IntKind.i64.wrap (IntKind.i64.wrap ((b.size : Int) - 0) - 1) = (b.size : Int) - 1 := by
    unfold maxSl at hm
    rw [wrap_id' (i := (b.size : Int) - 0) (by omega) (by omega), wrap_id' (by omega) (by omega)]; omega
  have e3 : IntKind.i64.wrap ((0 : Int) + 1) = 1 := by decide
  rw [e1, e2, e3, Int.toNat_natCast]
  have e4 : IntKind.i64.wrap ((1 : Int) + ((b.get! 0).toNat : Int)) = ((1 + (b.get! 0).toNat : Nat) : Int) := by rw [wrap_id' (by omega) (by omega)]; omega
  rw [e4]
  refine ⟨fun h1 => qfin rfl (no ?_) rfl rfl, fun h1 => Rq.mk ⟨by omega, by omega⟩ ⟨fun h2 => ⟨fun _ => qfin rfl (no ?_) rfl rfl⟩, fun h2 => ?_⟩⟩
  · have := of_decide_eq_true h1
    rw [tk, if_pos (by have : ((b.get! 0).toNat : Int) > 6 := this; omega)]
  · have h1 : ¬ ((b.get! 0).toNat : Int) > 6 := of_decide_eq_false h1
    have h2 := of_decide_eq_true h2
    rw [tk, if_neg (by omega), if_pos (by omega)]
  have h1 : ¬ ((b.get! 0).toNat : Int) > 6 := of_decide_eq_false h1
  have h2 := of_decide_eq_false h2
  rw [if_neg (by omega), if_neg (by omega)] at tk
  have fin : dOK (b.extract 1 (1 + (b.get! 0).toNat)) = true → Br (decide (((v256 (kb (b.extract 1 (1 + (b.get! 0).toNat))) : Nat) : Int) > 1099511627776)) (FinQ { pre := some ((0 : Int) = 0), res := .agg [.int .i64 (tkN b), .int .i64 (tkEnd b)] } [AV.agg [AV.int IntKind.i64 0, AV.int IntKind.i64 (-1)]] [] []) (FinQ { pre := some ((0 : Int) = 0), res := .agg [.int .i64 (tkN b), .int .i64 (tkEnd b)] } [AV.agg [AV.int IntKind.i64 (v256 (kb (b.extract 1 (1 + (b.get! 0).toNat))) : Nat), AV.int IntKind.i64 ((1 + (b.get! 0).toNat : Nat) : Int)]] [] []) := fun hd => by
    rw [if_neg (by rw [hd]; decide)] at tk
    refine ⟨fun h4 => qfin rfl (no ?_) rfl rfl, fun h4 => qfin rfl ?_ rfl rfl⟩
    · have h4 := of_decide_eq_true h4
      rw [tk, if_pos (by omega)]
    · have h4 := of_decide_eq_false h4
      rw [if_neg (by omega)] at tk
      show _ = [AV.agg [AV.int .i64 (tkN b), AV.int .i64 (tkEnd b)]]
      unfold tkN tkEnd; rw [tk]
      have hx : b.size - (kb (b.extract (1 + (b.get! 0).toNat) b.size)).length = 1 + (b.get! 0).toNat := by
        rw [kb_size, ByteArray.size_extract]; omega
      simp only [hx]
  refine ⟨fun h3 => ?_, fun h3 => ⟨fun _ => ?_⟩⟩
  · have h3 : ((b.get! 0).toNat : Int) > 0 := of_decide_eq_true h3
    have hd := dOK_ext (b := b) (k := (b.get! 0).toNat) (by omega) (by omega)
    refine Rq.mk ⟨by omega, by omega⟩ ⟨fun _ => ⟨fun h4 => qfin rfl (no ?_) rfl rfl, fun h4 => Rq.mk ⟨rfl, rfl, rfl, by omega, by omega, by omega⟩ (fin ?_)⟩⟩
    · have h4 : (((b.get! 1).toNat : Int) == 0) = true := h4
      rw [tk, if_pos (by rw [hd, h4]; rfl)]
    · have h4 : (((b.get! 1).toNat : Int) == 0) = false := h4
      rw [hd, h4]; rfl
  · have h3 : ¬ ((b.get! 0).toNat : Int) > 0 := of_decide_eq_false h3
    exact Rq.mk ⟨rfl, rfl, rfl, by omega, by omega, by omega⟩ (fin (dOK_nil (by rw [ByteArray.size_extract]; omega)))
theorem tkN1_holds : Holds 51 conTkN1 := conP_holds fun b => by
  rcases (show ∃ w : ByteArray, w = b from ⟨_, rfl⟩) with ⟨b, rfl⟩
  refine fun_meets0 (AllH.tok (.cons nu1_holds (by kernel_rfl) .nil)) [.as, .as, .row .str, .as, .as] (by kernel_rfl) (by kernel_rfl) fun _ => Eq.mpr (vcTkN1F b _) ?_
  cases ht : takeN (kb b) with
  | none =>
    have e1 : tkEnd b = -1 := by unfold tkEnd; rw [ht]
    rw [e1]
    refine Rq.mk rfl ⟨fun _ => qfin rfl ?_ rfl rfl, fun h => absurd h (by decide)⟩
    show _ = [AV.agg [AV.int .i64 (tkN b), _, _, AV.str (tkR b), AV.int .i64 (tkE b)]]
    unfold tkN tkR tkE; rw [ht]
  | some p =>
    obtain ⟨n, r⟩ := p
    obtain ⟨hb, hn⟩ := take_num_inv ht
    have hl := congrArg List.length hb
    rw [kb_size, List.length_append] at hl
    have e1 : tkEnd b = ((numL n).length : Int) := by unfold tkEnd; rw [ht]; show ((b.size - r.length : Nat) : Int) = _; omega
    rw [e1]
    refine Rq.mk rfl ⟨fun h => absurd (of_decide_eq_true h) (by omega), fun _ => Rq.mk ⟨by omega, by omega, by omega⟩ (qfin rfl ?_ rfl rfl)⟩
    have hx : b.extract (numL n).length b.size = bk r := by
      apply kb_inj
      rw [kb_ext, List.take_of_length_le (by rw [kb_size]; exact Nat.le_refl _), hb, List.drop_left, kb_bk]
    rw [Int.toNat_natCast, Int.toNat_natCast, hx]
    show _ = [AV.agg [AV.int .i64 (tkN b), _, _, AV.str (tkR b), AV.int .i64 (tkE b)]]
    unfold tkN tkR tkE; rw [ht]
theorem tkT1_holds : Holds 69 conTkT1 := conP_holds fun b => by
  rcases (show ∃ w : ByteArray, w = b from ⟨_, rfl⟩) with ⟨b, rfl⟩
  refine fun_meets0 (AllH.tok (.cons nu1_holds (by kernel_rfl) .nil)) [.as, .as, .row .str, .as, .as] (by kernel_rfl) (by kernel_rfl) fun _ => Eq.mpr (vcTkT1F b _) ?_
  have no : takeT (kb b) = none → [AV.agg [AV.int IntKind.i64 0, AV.str (ByteArray.mk (Array.mk [])), AV.row Ty.str [], AV.str (ByteArray.mk (Array.mk [])), AV.int IntKind.i64 4]] = compsOf (.agg [.int .i64 0, .str (ttS b), .row .str [], .str (ttR b), .int .i64 (ttE b)]) := fun h => by
    show _ = [AV.agg [_, AV.str (ttS b), _, AV.str (ttR b), AV.int .i64 (ttE b)]]
    unfold ttS ttR ttE; rw [h]
  cases ht : takeN (kb b) with
  | none =>
    have e1 : tkEnd b = -1 := by unfold tkEnd; rw [ht]
    rw [e1]
    refine Rq.mk rfl ⟨fun _ => qfin rfl (no ?_) rfl rfl, fun h => absurd h (by decide)⟩
    unfold takeT; rw [ht]
  | some p =>
    obtain ⟨n, r⟩ := p
    obtain ⟨hb, hn⟩ := take_num_inv ht
    have hl := congrArg List.length hb
    rw [kb_size, List.length_append] at hl
    have hnl := numL_le hn
    have e1 : tkEnd b = ((numL n).length : Int) := by unfold tkEnd; rw [ht]; show ((b.size - r.length : Nat) : Int) = _; omega
    have e2 : tkN b = (n : Int) := by unfold tkN; rw [ht]
    have hT : takeT (kb b) = if n > 65536 ∨ n > r.length then none else some (r.take n, r.drop n) := by unfold takeT; rw [ht]
    rw [e1, e2]
    refine Rq.mk rfl ⟨fun h => absurd (of_decide_eq_true h) (by omega), fun _ => ⟨fun h => qfin rfl (no ?_) rfl rfl, fun h => ⟨fun hm => ?_⟩⟩⟩
    · have h := of_decide_eq_true h
      rw [hT, if_pos (.inl (by omega))]
    have h := of_decide_eq_false h
    have w1 : IntKind.i64.wrap ((b.size : Int) - ((numL n).length : Int)) = (r.length : Int) := by unfold maxSl at hm; rw [wrap_id'] <;> omega
    have w2 : IntKind.i64.wrap (((numL n).length : Int) + (n : Int)) = (((numL n).length + n : Nat) : Int) := by rw [wrap_id'] <;> omega
    rw [w1, w2]
    refine ⟨fun h1 => qfin rfl (no ?_) rfl rfl, fun h1 => ?_⟩
    · have h1 := of_decide_eq_true h1
      rw [hT, if_pos (.inr (by omega))]
    have h1 := of_decide_eq_false h1
    rw [if_neg (by omega)] at hT
    refine Rq.mk ⟨by omega, by omega, by omega⟩ (Rq.mk ⟨by omega, by omega, by omega⟩ (qfin rfl ?_ rfl rfl))
    have a1 : b.extract (numL n).length ((numL n).length + n) = bk (r.take n) := by
      apply kb_inj
      rw [kb_ext, hb, List.take_length_add_append, List.drop_left, kb_bk]
    have a2 : b.extract ((numL n).length + n) b.size = bk (r.drop n) := by
      apply kb_inj
      rw [kb_ext, List.take_of_length_le (by rw [kb_size]; exact Nat.le_refl _), hb, List.drop_length_add_append, kb_bk]
    rw [Int.toNat_natCast, Int.toNat_natCast, Int.toNat_natCast, a1, a2]
    show _ = [AV.agg [_, AV.str (ttS b), _, AV.str (ttR b), AV.int .i64 (ttE b)]]
    unfold ttS ttR ttE; rw [hT]
end Go.Proofs.YtpbpabadbipfdaaGreatDoor.AX
end
section
namespace Go.Proofs.YtpbpabadbipfdaaGreatDoor.AXP
open Go Go.Proofs.YtpbpabadbipfdaaGreatDoor.AX
def mR3 (d : Int) (b : ByteArray) : List Nd × ByteArray × Bool := match pNds (d + 1).toNat (kb b) with
  | some (l, r) => (l, bk r, false)
  | none => ([], ⟨#[]⟩, true)
def aQ : Nat → ByteArray → List At × ByteArray × Bool
  | 0, b => ([], b, true)
  | c + 1, b => if ttE b ≠ 0 ∨ ttE (ttR b) ≠ 0 then ([], b, false) else (⟨ttS b, ttS (ttR b)⟩ :: (aQ c (ttR (ttR b))).1, (aQ c (ttR (ttR b))).2.1, (aQ c (ttR (ttR b))).2.2)
def zN : Nd := ⟨0, 0, ⟨#[]⟩, [], ⟨#[]⟩, []⟩
def oT (d : Int) (b : ByteArray) : Nd × ByteArray × Bool :=
  if tkE b ≠ 0 ∨ tkN b > 3 then (zN, ⟨#[]⟩, true)
  else if (tkN b == 2 || tkN b == 3) = true then (⟨tkN b, 0, ⟨#[]⟩, [], ttS (tkR b), []⟩, ttR (tkR b), ttE (tkR b) != 0)
  else if tkE (tkR b) ≠ 0 ∨ ttE (tkR (tkR b)) ≠ 0 ∨ tkE (ttR (tkR (tkR b))) ≠ 0 ∨ tkN (tkR b) > 2 ∨ tkN (ttR (tkR (tkR b))) > 12 then (zN, ⟨#[]⟩, true)
  else if (aQ (tkN (ttR (tkR (tkR b)))).toNat (tkR (ttR (tkR (tkR b))))).2.2 = true then
    (⟨tkN b, tkN (tkR b), ttS (tkR (tkR b)), (aQ (tkN (ttR (tkR (tkR b)))).toNat (tkR (ttR (tkR (tkR b))))).1, ⟨#[]⟩, (mR3 (d - 1) (aQ (tkN (ttR (tkR (tkR b)))).toNat (tkR (ttR (tkR (tkR b))))).2.1).1⟩,
      (mR3 (d - 1) (aQ (tkN (ttR (tkR (tkR b)))).toNat (tkR (ttR (tkR (tkR b))))).2.1).2.1, (mR3 (d - 1) (aQ (tkN (ttR (tkR (tkR b)))).toNat (tkR (ttR (tkR (tkR b))))).2.1).2.2)
  else (zN, ⟨#[]⟩, true)
def mQ (d : Int) : Nat → ByteArray → List Nd × ByteArray × Bool
  | 0, b => ([], b, true)
  | c + 1, b => if (oT d b).2.2 = true then ([], b, false) else ((oT d b).1 :: (mQ d c (oT d b).2.1).1, (mQ d c (oT d b).2.1).2.1, (mQ d c (oT d b).2.1).2.2)
def r8OK (b : ByteArray) : Bool := !(mR3 40 b).2.2 && eqS (mR3 40 b).2.1 ⟨#[]⟩ && (checkS (mR3 40 b).1 == 0)
def r8L (b : ByteArray) : List Nd := if r8OK b = true then (mR3 40 b).1 else []
def r8E (b : ByteArray) : Int := if r8OK b = true then 0 else 4
end Go.Proofs.YtpbpabadbipfdaaGreatDoor.AXP
namespace Go.Proofs.YtpbpabadbipfdaaGreatDoor.AX
open Go AXP
noncomputable def conMany (k : Nat) : Con := conP [.str, .int] fun (b : ByteArray) (d : Int) => { pre := some ((d + 2).toNat < k ∧ -1 ≤ d ∧ d ≤ 40), res := .agg [.int .i64 0, .int .i64 0, .str ⟨#[]⟩, .row .attr [], .str ⟨#[]⟩, .row .node [], .row .node (mR3 d b).1, .str (mR3 d b).2.1, .bool (mR3 d b).2.2] }
noncomputable def conOne (k : Nat) : Con := conP [.str, .int] fun (b : ByteArray) (d : Int) => { pre := some ((d + 1).toNat < k ∧ 0 ≤ d ∧ d ≤ 40), res := .agg [.int .i64 (oT d b).1.kind, .int .i64 (oT d b).1.space, .str (oT d b).1.name, .row .attr (oT d b).1.attrs, .str (oT d b).1.text, .row .node (oT d b).1.kids, .row .node [], .str (oT d b).2.1, .bool (oT d b).2.2] }
noncomputable def cxOne8 (k : Nat) : Cx := cxT (tabLook [(51, conTkN1), (69, conTkT1), (24, conMany k)])
noncomputable def lsOne8 : LS where
  keep := [(1, .as), (4, .as), (6, .as), (10, .as), (11, .as), (12, .as)]
  left := [(4, .as), (6, .as), (1, .as), (11, .as)]
  sum := fun vs bs K => match vs, bs with
    | [.int .i64 d, .ptr 0 0, .ptr 1 0, .ptr 2 0, .str b, .int .i64 i], [.box [.int .i64 z0, .int .i64 z1, .str z2, .nil, .str z4, .nil, .nil, .str z7, .bool z8], .box [.int .i64 o0, .int .i64 o1, .str o2, .nil, .str o4, .nil, .nil, .str o7, .bool o8], .box [.int .i64 c, .str cs, .row .str cl, .str cr, .int .i64 ce]] => Rq (i = 0 ∧ 0 ≤ c ∧ c ≤ 12)
      (Br (aQ c.toNat b).2.2
        (Br ((aQ c.toNat b).1.length == 0)
          (K (.exit 0) [.ptr 0 0, .ptr 1 0, .int .i64 d, .str (aQ c.toNat b).2.1] [.box [.int .i64 z0, .int .i64 z1, .str z2, .nil, .str z4, .nil, .nil, .str z7, .bool z8], .box [.int .i64 o0, .int .i64 o1, .str o2, .nil, .str o4, .nil, .nil, .str o7, .bool o8]])
          (K (.exit 0) [.ptr 0 0, .ptr 1 0, .int .i64 d, .str (aQ c.toNat b).2.1] [.box [.int .i64 z0, .int .i64 z1, .str z2, .nil, .str z4, .nil, .nil, .str z7, .bool z8], .box [.int .i64 o0, .int .i64 o1, .str o2, .own 2 0, .str o4, .nil, .nil, .str o7, .bool o8], .rowb 0 .attr (aQ c.toNat b).1]))
        (Br ((aQ c.toNat b).1.length == 0)
          (K .ret [.ptr 0 0, .ptr 1 0, .int .i64 d, .str (aQ c.toNat b).2.1] [.box [.int .i64 0, .int .i64 0, .str ⟨#[]⟩, .nil, .str ⟨#[]⟩, .nil, .nil, .str ⟨#[]⟩, .bool true], .box [.int .i64 o0, .int .i64 o1, .str o2, .nil, .str o4, .nil, .nil, .str o7, .bool o8]])
          (K .ret [.ptr 0 0, .ptr 1 0, .int .i64 d, .str (aQ c.toNat b).2.1] [.box [.int .i64 0, .int .i64 0, .str ⟨#[]⟩, .nil, .str ⟨#[]⟩, .nil, .nil, .str ⟨#[]⟩, .bool true], .box [.int .i64 o0, .int .i64 o1, .str o2, .own 2 0, .str o4, .nil, .nil, .str o7, .bool o8], .rowb 0 .attr (aQ c.toNat b).1])))
    | _, _ => False
noncomputable def cxMany (k : Nat) : Cx := cxT (tabLook [(51, conTkN1), (52, conOne k)])
noncomputable def lsMany (k : Nat) : LS where
  keep := [(1, .as), (4, .as), (5, .as), (6, .as), (7, .as)]
  left := [(4, .as), (6, .as)]
  sum := fun vs bs K => match vs, bs with
    | [.int .i64 d, .ptr 0 0, .ptr 1 0, .ptr 2 0, .int .i64 i], [.box [.int .i64 z0, .int .i64 z1, .str z2, .nil, .str z4, .nil, .nil, .str z7, .bool z8], .box [.int .i64 c, .str cs, .row .str cl, .str cr, .int .i64 ce], .box [.int .i64 o0, .int .i64 o1, .str o2, .nil, .str o4, .nil, .nil, .str b, .bool o8]] => Rq (i = 0 ∧ 0 ≤ c ∧ c ≤ 300 ∧ (d + 1).toNat < k ∧ 0 ≤ d ∧ d ≤ 40)
      (Br (mQ d c.toNat b).2.2
        (Br ((mQ d c.toNat b).1.length == 0)
          (K (.exit 0) [.ptr 0 0, .ptr 1 0] [.box [.int .i64 z0, .int .i64 z1, .str z2, .nil, .str z4, .nil, .nil, .str z7, .bool z8], .box [.int .i64 o0, .int .i64 o1, .str o2, .nil, .str o4, .nil, .nil, .str (mQ d c.toNat b).2.1, .bool o8]])
          (K (.exit 0) [.ptr 0 0, .ptr 1 0] [.box [.int .i64 z0, .int .i64 z1, .str z2, .nil, .str z4, .nil, .nil, .str z7, .bool z8], .box [.int .i64 o0, .int .i64 o1, .str o2, .nil, .str o4, .nil, .own 2 0, .str (mQ d c.toNat b).2.1, .bool o8], .rowb 0 .node (mQ d c.toNat b).1]))
        (Br ((mQ d c.toNat b).1.length == 0)
          (K .ret [.ptr 0 0, .ptr 1 0] [.box [.int .i64 0, .int .i64 0, .str ⟨#[]⟩, .nil, .str ⟨#[]⟩, .nil, .nil, .str ⟨#[]⟩, .bool true], .box [.int .i64 o0, .int .i64 o1, .str o2, .nil, .str o4, .nil, .nil, .str (mQ d c.toNat b).2.1, .bool o8]])
          (K .ret [.ptr 0 0, .ptr 1 0] [.box [.int .i64 0, .int .i64 0, .str ⟨#[]⟩, .nil, .str ⟨#[]⟩, .nil, .nil, .str ⟨#[]⟩, .bool true], .box [.int .i64 o0, .int .i64 o1, .str o2, .nil, .str o4, .nil, .own 2 0, .str (mQ d c.toNat b).2.1, .bool o8], .rowb 0 .node (mQ d c.toNat b).1])))
    | _, _ => False
noncomputable def cxRd8 : Cx := cxT (tabLook [(24, conMany 43), (20, conCk8)])
def r8Pre (b : ByteArray) : Prop := (mR3 40 b).2.2 = false → (mR3 40 b).2.1.size = 0 → fineNds (mR3 40 b).1
def conRd8 : Con := conP [.str] fun (b : ByteArray) => { pre := some (r8Pre b), res := .tup [.row .node (r8L b), .int .i64 (r8E b)] }
noncomputable def cxTr8 : Cx := cxT (tabLook [(6, conT8), (9, conRead), (10, conRd8), (11, conNodes)])
def conTr8 : Con := conP [.str] fun (_ : ByteArray) => { res := .bool true }
end Go.Proofs.YtpbpabadbipfdaaGreatDoor.AX
end
section
namespace Go.Proofs.YtpbpabadbipfdaaGreatDoor.AX
open Go AXP
set_option maxRecDepth 100000
theorem vcOne0 (j : Nat) (d i z0 z1 o0 o1 c ce : Int) (b z2 z4 z7 o2 o4 o7 cs cr : ByteArray) (z8 o8 : Bool) (cl : List ByteArray) (K : Ex → List AV → List Blk → Prop) : (bodyA (cxOne8 j) (LL Tryz.f52 [lsOne8]) Tryz.f52.ntmps (loopAt Tryz.f52 0).1 (loopAt Tryz.f52 0).2 lsOne8.keep lsOne8.left K [.int .i64 d, .ptr 0 0, .ptr 1 0, .ptr 2 0, .str b, .int .i64 i] [.box [.int .i64 z0, .int .i64 z1, .str z2, .nil, .str z4, .nil, .nil, .str z7, .bool z8], .box [.int .i64 o0, .int .i64 o1, .str o2, .nil, .str o4, .nil, .nil, .str o7, .bool o8], .box [.int .i64 c, .str cs, .row .str cl, .str cr, .int .i64 ce]]) = (
Br (decide (i < c))
  (Br (ttE b != (0 : Int))
    (K Ex.ret [AV.ptr (0 : Nat) (0 : Nat), AV.ptr ((0 : Nat) + (1 : Nat)) (0 : Nat), AV.int IntKind.i64 d, AV.str b]
      [Blk.box
          [AV.int IntKind.i64 (0 : Int), AV.int IntKind.i64 (0 : Int), AV.str (ByteArray.mk (Array.mk [])), AV.nil,
            AV.str (ByteArray.mk (Array.mk [])), AV.nil, AV.nil, AV.str (ByteArray.mk (Array.mk [])), AV.bool true],
        Blk.box
          [AV.int IntKind.i64 o0, AV.int IntKind.i64 o1, AV.str o2, AV.nil, AV.str o4, AV.nil, AV.nil, AV.str o7,
            AV.bool o8]])
    (Br (ttE (ttR b) != (0 : Int))
      (K Ex.ret [AV.ptr (0 : Nat) (0 : Nat), AV.ptr ((0 : Nat) + (1 : Nat)) (0 : Nat), AV.int IntKind.i64 d, AV.str b]
        [Blk.box
            [AV.int IntKind.i64 (0 : Int), AV.int IntKind.i64 (0 : Int), AV.str (ByteArray.mk (Array.mk [])), AV.nil,
              AV.str (ByteArray.mk (Array.mk [])), AV.nil, AV.nil, AV.str (ByteArray.mk (Array.mk [])), AV.bool true],
          Blk.box
            [AV.int IntKind.i64 o0, AV.int IntKind.i64 o1, AV.str o2, AV.nil, AV.str o4, AV.nil, AV.nil, AV.str o7,
              AV.bool o8]])
      (Rq ([At.mk (ttS b) (ttS (ttR b))].length * (32 : Nat) ≤ maxSl)
        (K Ex.norm
          [AV.int IntKind.i64 d, AV.ptr (0 : Nat) (0 : Nat), AV.ptr ((0 : Nat) + (1 : Nat)) (0 : Nat),
            AV.ptr ((0 : Nat) + (1 : Nat) + (1 : Nat)) (0 : Nat), AV.str (ttR (ttR b)),
            AV.int IntKind.i64 (IntKind.i64.wrap (i + (1 : Int)))]
          [Blk.box
              [AV.int IntKind.i64 z0, AV.int IntKind.i64 z1, AV.str z2, AV.nil, AV.str z4, AV.nil, AV.nil, AV.str z7,
                AV.bool z8],
            Blk.box
              [AV.int IntKind.i64 o0, AV.int IntKind.i64 o1, AV.str o2,
                AV.own ((0 : Nat) + (1 : Nat) + (1 : Nat) + (1 : Nat)) (0 : Nat), AV.str o4, AV.nil, AV.nil, AV.str o7,
                AV.bool o8],
            Blk.box [AV.int IntKind.i64 c, AV.str cs, AV.row Ty.str cl, AV.str cr, AV.int IntKind.i64 ce],
            Blk.rowb (0 : Nat) Ty.attr [At.mk (ttS b) (ttS (ttR b))]]))))
  (K (Ex.exit (0 : Nat))
    [AV.ptr (0 : Nat) (0 : Nat), AV.ptr ((0 : Nat) + (1 : Nat)) (0 : Nat), AV.int IntKind.i64 d, AV.str b]
    [Blk.box
        [AV.int IntKind.i64 z0, AV.int IntKind.i64 z1, AV.str z2, AV.nil, AV.str z4, AV.nil, AV.nil, AV.str z7,
          AV.bool z8],
      Blk.box
        [AV.int IntKind.i64 o0, AV.int IntKind.i64 o1, AV.str o2, AV.nil, AV.str o4, AV.nil, AV.nil, AV.str o7,
          AV.bool o8]])) := by kernel_rfl
theorem vcOne1 (j : Nat) (d i z0 z1 o0 o1 c ce : Int) (b z2 z4 z7 o2 o4 o7 cs cr : ByteArray) (z8 o8 : Bool) (cl : List ByteArray) (a : List At) (K : Ex → List AV → List Blk → Prop) : (bodyA (cxOne8 j) (LL Tryz.f52 [lsOne8]) Tryz.f52.ntmps (loopAt Tryz.f52 0).1 (loopAt Tryz.f52 0).2 lsOne8.keep lsOne8.left K [.int .i64 d, .ptr 0 0, .ptr 1 0, .ptr 2 0, .str b, .int .i64 i] [.box [.int .i64 z0, .int .i64 z1, .str z2, .nil, .str z4, .nil, .nil, .str z7, .bool z8], .box [.int .i64 o0, .int .i64 o1, .str o2, .own 3 0, .str o4, .nil, .nil, .str o7, .bool o8], .box [.int .i64 c, .str cs, .row .str cl, .str cr, .int .i64 ce], .rowb 0 .attr a]) = (
Br (decide (i < c))
  (Br (ttE b != (0 : Int))
    (K Ex.ret [AV.ptr (0 : Nat) (0 : Nat), AV.ptr ((0 : Nat) + (1 : Nat)) (0 : Nat), AV.int IntKind.i64 d, AV.str b]
      [Blk.box
          [AV.int IntKind.i64 (0 : Int), AV.int IntKind.i64 (0 : Int), AV.str (ByteArray.mk (Array.mk [])), AV.nil,
            AV.str (ByteArray.mk (Array.mk [])), AV.nil, AV.nil, AV.str (ByteArray.mk (Array.mk [])), AV.bool true],
        Blk.box
          [AV.int IntKind.i64 o0, AV.int IntKind.i64 o1, AV.str o2,
            AV.own ((0 : Nat) + (1 : Nat) + (1 : Nat)) (0 : Nat), AV.str o4, AV.nil, AV.nil, AV.str o7, AV.bool o8],
        Blk.rowb (0 : Nat) Ty.attr a])
    (Br (ttE (ttR b) != (0 : Int))
      (K Ex.ret [AV.ptr (0 : Nat) (0 : Nat), AV.ptr ((0 : Nat) + (1 : Nat)) (0 : Nat), AV.int IntKind.i64 d, AV.str b]
        [Blk.box
            [AV.int IntKind.i64 (0 : Int), AV.int IntKind.i64 (0 : Int), AV.str (ByteArray.mk (Array.mk [])), AV.nil,
              AV.str (ByteArray.mk (Array.mk [])), AV.nil, AV.nil, AV.str (ByteArray.mk (Array.mk [])), AV.bool true],
          Blk.box
            [AV.int IntKind.i64 o0, AV.int IntKind.i64 o1, AV.str o2,
              AV.own ((0 : Nat) + (1 : Nat) + (1 : Nat)) (0 : Nat), AV.str o4, AV.nil, AV.nil, AV.str o7, AV.bool o8],
          Blk.rowb (0 : Nat) Ty.attr a])
      (Rq ((a.length + [At.mk (ttS b) (ttS (ttR b))].length) * (32 : Nat) ≤ maxSl)
        (K Ex.norm
          [AV.int IntKind.i64 d, AV.ptr (0 : Nat) (0 : Nat), AV.ptr ((0 : Nat) + (1 : Nat)) (0 : Nat),
            AV.ptr ((0 : Nat) + (1 : Nat) + (1 : Nat)) (0 : Nat), AV.str (ttR (ttR b)),
            AV.int IntKind.i64 (IntKind.i64.wrap (i + (1 : Int)))]
          [Blk.box
              [AV.int IntKind.i64 z0, AV.int IntKind.i64 z1, AV.str z2, AV.nil, AV.str z4, AV.nil, AV.nil, AV.str z7,
                AV.bool z8],
            Blk.box
              [AV.int IntKind.i64 o0, AV.int IntKind.i64 o1, AV.str o2,
                AV.own ((0 : Nat) + (1 : Nat) + (1 : Nat) + (1 : Nat)) (0 : Nat), AV.str o4, AV.nil, AV.nil, AV.str o7,
                AV.bool o8],
            Blk.box [AV.int IntKind.i64 c, AV.str cs, AV.row Ty.str cl, AV.str cr, AV.int IntKind.i64 ce],
            Blk.rowb (0 : Nat) Ty.attr (a ++ [At.mk (ttS b) (ttS (ttR b))])]))))
  (K (Ex.exit (0 : Nat))
    [AV.ptr (0 : Nat) (0 : Nat), AV.ptr ((0 : Nat) + (1 : Nat)) (0 : Nat), AV.int IntKind.i64 d, AV.str b]
    [Blk.box
        [AV.int IntKind.i64 z0, AV.int IntKind.i64 z1, AV.str z2, AV.nil, AV.str z4, AV.nil, AV.nil, AV.str z7,
          AV.bool z8],
      Blk.box
        [AV.int IntKind.i64 o0, AV.int IntKind.i64 o1, AV.str o2, AV.own ((0 : Nat) + (1 : Nat) + (1 : Nat)) (0 : Nat),
          AV.str o4, AV.nil, AV.nil, AV.str o7, AV.bool o8],
      Blk.rowb (0 : Nat) Ty.attr a])) := by kernel_rfl
theorem vcOneF (j : Nat) (b : ByteArray) (d : Int) (Q : List AV → List Blk → List Blk → Prop) : (funA (cxOne8 j) (LL Tryz.f52 [lsOne8]) Tryz.f52 [.str b, .int .i64 d] [] [.as, .as, .as, .row .attr, .as, .row .node, .row .node, .as, .as] Q) = (
Br (tkE b != (0 : Int))
  (Q
    [AV.agg
        [AV.int IntKind.i64 (0 : Int), AV.int IntKind.i64 (0 : Int), AV.str (ByteArray.mk (Array.mk [])),
          AV.row Ty.attr [], AV.str (ByteArray.mk (Array.mk [])), AV.row Ty.node [], AV.row Ty.node [],
          AV.str (ByteArray.mk (Array.mk [])), AV.bool true]]
    [] [])
  (Br (decide (tkN b > (3 : Int)))
    (Q
      [AV.agg
          [AV.int IntKind.i64 (0 : Int), AV.int IntKind.i64 (0 : Int), AV.str (ByteArray.mk (Array.mk [])),
            AV.row Ty.attr [], AV.str (ByteArray.mk (Array.mk [])), AV.row Ty.node [], AV.row Ty.node [],
            AV.str (ByteArray.mk (Array.mk [])), AV.bool true]]
      [] [])
    (Br (tkN b == (2 : Int))
      (Q
        [AV.agg
            [AV.int IntKind.i64 (tkN b), AV.int IntKind.i64 (0 : Int), AV.str (ByteArray.mk (Array.mk [])),
              AV.row Ty.attr [], AV.str (ttS (tkR b)), AV.row Ty.node [], AV.row Ty.node [], AV.str (ttR (tkR b)),
              AV.bool (ttE (tkR b) != (0 : Int))]]
        [] [])
      (Br (tkN b == (3 : Int))
        (Q
          [AV.agg
              [AV.int IntKind.i64 (tkN b), AV.int IntKind.i64 (0 : Int), AV.str (ByteArray.mk (Array.mk [])),
                AV.row Ty.attr [], AV.str (ttS (tkR b)), AV.row Ty.node [], AV.row Ty.node [], AV.str (ttR (tkR b)),
                AV.bool (ttE (tkR b) != (0 : Int))]]
          [] [])
        (Br (tkE (tkR b) != (0 : Int))
          (Q
            [AV.agg
                [AV.int IntKind.i64 (0 : Int), AV.int IntKind.i64 (0 : Int), AV.str (ByteArray.mk (Array.mk [])),
                  AV.row Ty.attr [], AV.str (ByteArray.mk (Array.mk [])), AV.row Ty.node [], AV.row Ty.node [],
                  AV.str (ByteArray.mk (Array.mk [])), AV.bool true]]
            [] [])
          (Br (ttE (tkR (tkR b)) != (0 : Int))
            (Q
              [AV.agg
                  [AV.int IntKind.i64 (0 : Int), AV.int IntKind.i64 (0 : Int), AV.str (ByteArray.mk (Array.mk [])),
                    AV.row Ty.attr [], AV.str (ByteArray.mk (Array.mk [])), AV.row Ty.node [], AV.row Ty.node [],
                    AV.str (ByteArray.mk (Array.mk [])), AV.bool true]]
              [] [])
            (Br (tkE (ttR (tkR (tkR b))) != (0 : Int))
              (Q
                [AV.agg
                    [AV.int IntKind.i64 (0 : Int), AV.int IntKind.i64 (0 : Int), AV.str (ByteArray.mk (Array.mk [])),
                      AV.row Ty.attr [], AV.str (ByteArray.mk (Array.mk [])), AV.row Ty.node [], AV.row Ty.node [],
                      AV.str (ByteArray.mk (Array.mk [])), AV.bool true]]
                [] [])
              (Br (decide (tkN (tkR b) > (2 : Int)))
                (Q
                  [AV.agg
                      [AV.int IntKind.i64 (0 : Int), AV.int IntKind.i64 (0 : Int), AV.str (ByteArray.mk (Array.mk [])),
                        AV.row Ty.attr [], AV.str (ByteArray.mk (Array.mk [])), AV.row Ty.node [], AV.row Ty.node [],
                        AV.str (ByteArray.mk (Array.mk [])), AV.bool true]]
                  [] [])
                (Br (decide (tkN (ttR (tkR (tkR b))) > (12 : Int)))
                  (Q
                    [AV.agg
                        [AV.int IntKind.i64 (0 : Int), AV.int IntKind.i64 (0 : Int),
                          AV.str (ByteArray.mk (Array.mk [])), AV.row Ty.attr [], AV.str (ByteArray.mk (Array.mk [])),
                          AV.row Ty.node [], AV.row Ty.node [], AV.str (ByteArray.mk (Array.mk [])), AV.bool true]]
                    [] [])
                  (Rq
                    ((0 : Int) = (0 : Int) ∧ (0 : Int) ≤ tkN (ttR (tkR (tkR b))) ∧ tkN (ttR (tkR (tkR b))) ≤ (12 : Int))
                    (Br (aQ (tkN (ttR (tkR (tkR b)))).toNat (tkR (ttR (tkR (tkR b))))).2.2
                      (Br ((aQ (tkN (ttR (tkR (tkR b)))).toNat (tkR (ttR (tkR (tkR b))))).1.length == (0 : Nat))
                        (Rq
                          ((IntKind.i64.wrap (d - (1 : Int)) + (2 : Int)).toNat < j ∧
                            (-1 : Int) ≤ IntKind.i64.wrap (d - (1 : Int)) ∧
                              IntKind.i64.wrap (d - (1 : Int)) ≤ (40 : Int))
                          (Q
                            [AV.agg
                                [AV.int IntKind.i64 (tkN b), AV.int IntKind.i64 (tkN (tkR b)),
                                  AV.str (ttS (tkR (tkR b))), AV.row Ty.attr [], AV.str (ByteArray.mk (Array.mk [])),
                                  AV.row Ty.node
                                    (mR3 (IntKind.i64.wrap (d - (1 : Int)))
                                        (aQ (tkN (ttR (tkR (tkR b)))).toNat (tkR (ttR (tkR (tkR b))))).2.1).1,
                                  AV.row Ty.node [],
                                  AV.str
                                    (mR3 (IntKind.i64.wrap (d - (1 : Int)))
                                          (aQ (tkN (ttR (tkR (tkR b)))).toNat (tkR (ttR (tkR (tkR b))))).2.1).2.1,
                                  AV.bool
                                    (mR3 (IntKind.i64.wrap (d - (1 : Int)))
                                          (aQ (tkN (ttR (tkR (tkR b)))).toNat (tkR (ttR (tkR (tkR b))))).2.1).2.2]]
                            [] []))
                        (Rq
                          ((IntKind.i64.wrap (d - (1 : Int)) + (2 : Int)).toNat < j ∧
                            (-1 : Int) ≤ IntKind.i64.wrap (d - (1 : Int)) ∧
                              IntKind.i64.wrap (d - (1 : Int)) ≤ (40 : Int))
                          (Q
                            [AV.agg
                                [AV.int IntKind.i64 (tkN b), AV.int IntKind.i64 (tkN (tkR b)),
                                  AV.str (ttS (tkR (tkR b))),
                                  AV.row Ty.attr (aQ (tkN (ttR (tkR (tkR b)))).toNat (tkR (ttR (tkR (tkR b))))).1,
                                  AV.str (ByteArray.mk (Array.mk [])),
                                  AV.row Ty.node
                                    (mR3 (IntKind.i64.wrap (d - (1 : Int)))
                                        (aQ (tkN (ttR (tkR (tkR b)))).toNat (tkR (ttR (tkR (tkR b))))).2.1).1,
                                  AV.row Ty.node [],
                                  AV.str
                                    (mR3 (IntKind.i64.wrap (d - (1 : Int)))
                                          (aQ (tkN (ttR (tkR (tkR b)))).toNat (tkR (ttR (tkR (tkR b))))).2.1).2.1,
                                  AV.bool
                                    (mR3 (IntKind.i64.wrap (d - (1 : Int)))
                                          (aQ (tkN (ttR (tkR (tkR b)))).toNat (tkR (ttR (tkR (tkR b))))).2.1).2.2]]
                            [] [])))
                      (Br ((aQ (tkN (ttR (tkR (tkR b)))).toNat (tkR (ttR (tkR (tkR b))))).1.length == (0 : Nat))
                        (Q
                          [AV.agg
                              [AV.int IntKind.i64 (0 : Int), AV.int IntKind.i64 (0 : Int),
                                AV.str (ByteArray.mk (Array.mk [])), AV.row Ty.attr [],
                                AV.str (ByteArray.mk (Array.mk [])), AV.row Ty.node [], AV.row Ty.node [],
                                AV.str (ByteArray.mk (Array.mk [])), AV.bool true]]
                          [] [])
                        (Q
                          [AV.agg
                              [AV.int IntKind.i64 (0 : Int), AV.int IntKind.i64 (0 : Int),
                                AV.str (ByteArray.mk (Array.mk [])), AV.row Ty.attr [],
                                AV.str (ByteArray.mk (Array.mk [])), AV.row Ty.node [], AV.row Ty.node [],
                                AV.str (ByteArray.mk (Array.mk [])), AV.bool true]]
                          [] []))))))))))))) := by kernel_rfl
theorem vcMany0 (j : Nat) (d i z0 z1 o0 o1 c ce : Int) (b z2 z4 z7 o2 o4 cs cr : ByteArray) (z8 o8 : Bool) (cl : List ByteArray) (K : Ex → List AV → List Blk → Prop) : (bodyA (cxMany j) (LL Tryz.f24 [lsMany j]) Tryz.f24.ntmps (loopAt Tryz.f24 0).1 (loopAt Tryz.f24 0).2 (lsMany j).keep (lsMany j).left K [.int .i64 d, .ptr 0 0, .ptr 1 0, .ptr 2 0, .int .i64 i] [.box [.int .i64 z0, .int .i64 z1, .str z2, .nil, .str z4, .nil, .nil, .str z7, .bool z8], .box [.int .i64 c, .str cs, .row .str cl, .str cr, .int .i64 ce], .box [.int .i64 o0, .int .i64 o1, .str o2, .nil, .str o4, .nil, .nil, .str b, .bool o8]]) = (
Br (decide (i < c))
  (Rq ((d + (1 : Int)).toNat < j ∧ (0 : Int) ≤ d ∧ d ≤ (40 : Int))
    (Br (oT d b).2.2
      (K Ex.ret [AV.ptr (0 : Nat) (0 : Nat), AV.ptr ((0 : Nat) + (1 : Nat)) (0 : Nat)]
        [Blk.box
            [AV.int IntKind.i64 (0 : Int), AV.int IntKind.i64 (0 : Int), AV.str (ByteArray.mk (Array.mk [])), AV.nil,
              AV.str (ByteArray.mk (Array.mk [])), AV.nil, AV.nil, AV.str (ByteArray.mk (Array.mk [])), AV.bool true],
          Blk.box
            [AV.int IntKind.i64 o0, AV.int IntKind.i64 o1, AV.str o2, AV.nil, AV.str o4, AV.nil, AV.nil, AV.str b,
              AV.bool o8]])
      (Rq
        ([Nd.mk (oT d b).1.1 (oT d b).1.2 (oT d b).1.3 (oT d b).1.4 (oT d b).1.5 (oT d b).1.6].length * (96 : Nat) ≤
          maxSl)
        (K Ex.norm
          [AV.int IntKind.i64 d, AV.ptr (0 : Nat) (0 : Nat), AV.ptr ((0 : Nat) + (1 : Nat)) (0 : Nat),
            AV.ptr ((0 : Nat) + (1 : Nat) + (1 : Nat)) (0 : Nat), AV.int IntKind.i64 (IntKind.i64.wrap (i + (1 : Int)))]
          [Blk.box
              [AV.int IntKind.i64 z0, AV.int IntKind.i64 z1, AV.str z2, AV.nil, AV.str z4, AV.nil, AV.nil, AV.str z7,
                AV.bool z8],
            Blk.box [AV.int IntKind.i64 c, AV.str cs, AV.row Ty.str cl, AV.str cr, AV.int IntKind.i64 ce],
            Blk.box
              [AV.int IntKind.i64 o0, AV.int IntKind.i64 o1, AV.str o2, AV.nil, AV.str o4, AV.nil,
                AV.own ((0 : Nat) + (1 : Nat) + (1 : Nat) + (1 : Nat)) (0 : Nat), AV.str (oT d b).2.1, AV.bool o8],
            Blk.rowb (0 : Nat) Ty.node
              [Nd.mk (oT d b).1.1 (oT d b).1.2 (oT d b).1.3 (oT d b).1.4 (oT d b).1.5 (oT d b).1.6]]))))
  (K (Ex.exit (0 : Nat)) [AV.ptr (0 : Nat) (0 : Nat), AV.ptr ((0 : Nat) + (1 : Nat)) (0 : Nat)]
    [Blk.box
        [AV.int IntKind.i64 z0, AV.int IntKind.i64 z1, AV.str z2, AV.nil, AV.str z4, AV.nil, AV.nil, AV.str z7,
          AV.bool z8],
      Blk.box
        [AV.int IntKind.i64 o0, AV.int IntKind.i64 o1, AV.str o2, AV.nil, AV.str o4, AV.nil, AV.nil, AV.str b,
          AV.bool o8]])) := by kernel_rfl
theorem vcMany1 (j : Nat) (d i z0 z1 o0 o1 c ce : Int) (b z2 z4 z7 o2 o4 cs cr : ByteArray) (z8 o8 : Bool) (cl : List ByteArray) (a : List Nd) (K : Ex → List AV → List Blk → Prop) : (bodyA (cxMany j) (LL Tryz.f24 [lsMany j]) Tryz.f24.ntmps (loopAt Tryz.f24 0).1 (loopAt Tryz.f24 0).2 (lsMany j).keep (lsMany j).left K [.int .i64 d, .ptr 0 0, .ptr 1 0, .ptr 2 0, .int .i64 i] [.box [.int .i64 z0, .int .i64 z1, .str z2, .nil, .str z4, .nil, .nil, .str z7, .bool z8], .box [.int .i64 c, .str cs, .row .str cl, .str cr, .int .i64 ce], .box [.int .i64 o0, .int .i64 o1, .str o2, .nil, .str o4, .nil, .own 3 0, .str b, .bool o8], .rowb 0 .node a]) = (
Br (decide (i < c))
  (Rq ((d + (1 : Int)).toNat < j ∧ (0 : Int) ≤ d ∧ d ≤ (40 : Int))
    (Br (oT d b).2.2
      (K Ex.ret [AV.ptr (0 : Nat) (0 : Nat), AV.ptr ((0 : Nat) + (1 : Nat)) (0 : Nat)]
        [Blk.box
            [AV.int IntKind.i64 (0 : Int), AV.int IntKind.i64 (0 : Int), AV.str (ByteArray.mk (Array.mk [])), AV.nil,
              AV.str (ByteArray.mk (Array.mk [])), AV.nil, AV.nil, AV.str (ByteArray.mk (Array.mk [])), AV.bool true],
          Blk.box
            [AV.int IntKind.i64 o0, AV.int IntKind.i64 o1, AV.str o2, AV.nil, AV.str o4, AV.nil,
              AV.own ((0 : Nat) + (1 : Nat) + (1 : Nat)) (0 : Nat), AV.str b, AV.bool o8],
          Blk.rowb (0 : Nat) Ty.node a])
      (Rq
        ((a.length + [Nd.mk (oT d b).1.1 (oT d b).1.2 (oT d b).1.3 (oT d b).1.4 (oT d b).1.5 (oT d b).1.6].length) *
            (96 : Nat) ≤
          maxSl)
        (K Ex.norm
          [AV.int IntKind.i64 d, AV.ptr (0 : Nat) (0 : Nat), AV.ptr ((0 : Nat) + (1 : Nat)) (0 : Nat),
            AV.ptr ((0 : Nat) + (1 : Nat) + (1 : Nat)) (0 : Nat), AV.int IntKind.i64 (IntKind.i64.wrap (i + (1 : Int)))]
          [Blk.box
              [AV.int IntKind.i64 z0, AV.int IntKind.i64 z1, AV.str z2, AV.nil, AV.str z4, AV.nil, AV.nil, AV.str z7,
                AV.bool z8],
            Blk.box [AV.int IntKind.i64 c, AV.str cs, AV.row Ty.str cl, AV.str cr, AV.int IntKind.i64 ce],
            Blk.box
              [AV.int IntKind.i64 o0, AV.int IntKind.i64 o1, AV.str o2, AV.nil, AV.str o4, AV.nil,
                AV.own ((0 : Nat) + (1 : Nat) + (1 : Nat) + (1 : Nat)) (0 : Nat), AV.str (oT d b).2.1, AV.bool o8],
            Blk.rowb (0 : Nat) Ty.node
              (a ++ [Nd.mk (oT d b).1.1 (oT d b).1.2 (oT d b).1.3 (oT d b).1.4 (oT d b).1.5 (oT d b).1.6])]))))
  (K (Ex.exit (0 : Nat)) [AV.ptr (0 : Nat) (0 : Nat), AV.ptr ((0 : Nat) + (1 : Nat)) (0 : Nat)]
    [Blk.box
        [AV.int IntKind.i64 z0, AV.int IntKind.i64 z1, AV.str z2, AV.nil, AV.str z4, AV.nil, AV.nil, AV.str z7,
          AV.bool z8],
      Blk.box
        [AV.int IntKind.i64 o0, AV.int IntKind.i64 o1, AV.str o2, AV.nil, AV.str o4, AV.nil,
          AV.own ((0 : Nat) + (1 : Nat) + (1 : Nat)) (0 : Nat), AV.str b, AV.bool o8],
      Blk.rowb (0 : Nat) Ty.node a])) := by kernel_rfl
theorem vcManyF (j : Nat) (b : ByteArray) (d : Int) (Q : List AV → List Blk → List Blk → Prop) : (funA (cxMany j) (LL Tryz.f24 [lsMany j]) Tryz.f24 [.str b, .int .i64 d] [] [.as, .as, .as, .row .attr, .as, .row .node, .row .node, .as, .as] Q) = (
Br (tkE b != (0 : Int))
  (Q
    [AV.agg
        [AV.int IntKind.i64 (0 : Int), AV.int IntKind.i64 (0 : Int), AV.str (ByteArray.mk (Array.mk [])),
          AV.row Ty.attr [], AV.str (ByteArray.mk (Array.mk [])), AV.row Ty.node [], AV.row Ty.node [],
          AV.str (ByteArray.mk (Array.mk [])), AV.bool true]]
    [] [])
  (Br (decide (tkN b > (300 : Int)))
    (Q
      [AV.agg
          [AV.int IntKind.i64 (0 : Int), AV.int IntKind.i64 (0 : Int), AV.str (ByteArray.mk (Array.mk [])),
            AV.row Ty.attr [], AV.str (ByteArray.mk (Array.mk [])), AV.row Ty.node [], AV.row Ty.node [],
            AV.str (ByteArray.mk (Array.mk [])), AV.bool true]]
      [] [])
    (Br (decide (d < (0 : Int)))
      (Q
        [AV.agg
            [AV.int IntKind.i64 (0 : Int), AV.int IntKind.i64 (0 : Int), AV.str (ByteArray.mk (Array.mk [])),
              AV.row Ty.attr [], AV.str (ByteArray.mk (Array.mk [])), AV.row Ty.node [], AV.row Ty.node [],
              AV.str (ByteArray.mk (Array.mk [])), AV.bool true]]
        [] [])
      (Rq
        ((0 : Int) = (0 : Int) ∧
          (0 : Int) ≤ tkN b ∧ tkN b ≤ (300 : Int) ∧ (d + (1 : Int)).toNat < j ∧ (0 : Int) ≤ d ∧ d ≤ (40 : Int))
        (Br (mQ d (tkN b).toNat (tkR b)).2.2
          (Br ((mQ d (tkN b).toNat (tkR b)).1.length == (0 : Nat))
            (Q
              [AV.agg
                  [AV.int IntKind.i64 (0 : Int), AV.int IntKind.i64 (0 : Int), AV.str (ByteArray.mk (Array.mk [])),
                    AV.row Ty.attr [], AV.str (ByteArray.mk (Array.mk [])), AV.row Ty.node [], AV.row Ty.node [],
                    AV.str (mQ d (tkN b).toNat (tkR b)).2.1, AV.bool false]]
              [] [])
            (Q
              [AV.agg
                  [AV.int IntKind.i64 (0 : Int), AV.int IntKind.i64 (0 : Int), AV.str (ByteArray.mk (Array.mk [])),
                    AV.row Ty.attr [], AV.str (ByteArray.mk (Array.mk [])), AV.row Ty.node [],
                    AV.row Ty.node (mQ d (tkN b).toNat (tkR b)).1, AV.str (mQ d (tkN b).toNat (tkR b)).2.1,
                    AV.bool false]]
              [] []))
          (Br ((mQ d (tkN b).toNat (tkR b)).1.length == (0 : Nat))
            (Q
              [AV.agg
                  [AV.int IntKind.i64 (0 : Int), AV.int IntKind.i64 (0 : Int), AV.str (ByteArray.mk (Array.mk [])),
                    AV.row Ty.attr [], AV.str (ByteArray.mk (Array.mk [])), AV.row Ty.node [], AV.row Ty.node [],
                    AV.str (ByteArray.mk (Array.mk [])), AV.bool true]]
              [] [])
            (Q
              [AV.agg
                  [AV.int IntKind.i64 (0 : Int), AV.int IntKind.i64 (0 : Int), AV.str (ByteArray.mk (Array.mk [])),
                    AV.row Ty.attr [], AV.str (ByteArray.mk (Array.mk [])), AV.row Ty.node [], AV.row Ty.node [],
                    AV.str (ByteArray.mk (Array.mk [])), AV.bool true]]
              [] []))))))) := by kernel_rfl
theorem vcRd8F (b : ByteArray) (Q : List AV → List Blk → List Blk → Prop) : (funA cxRd8 (LL Tryz.f10 []) Tryz.f10 [.str b] [] [.row .node, .as] Q) = (
Rq (((40 : Int) + (2 : Int)).toNat < (43 : Nat) ∧ (-1 : Int) ≤ (40 : Int) ∧ (40 : Int) ≤ (40 : Int))
  (Br (mR3 (40 : Int) b).2.2 (Q [AV.row Ty.node [], AV.int IntKind.i64 (4 : Int)] [] [])
    (Br (!eqS (mR3 (40 : Int) b).2.1 (ByteArray.mk (Array.mk [])))
      (Q [AV.row Ty.node [], AV.int IntKind.i64 (4 : Int)] [] [])
      (Rq (fineNds (mR3 (40 : Int) b).1)
        (Br (checkS (mR3 (40 : Int) b).1 != (0 : Int)) (Q [AV.row Ty.node [], AV.int IntKind.i64 (4 : Int)] [] [])
          (Q [AV.row Ty.node (mR3 (40 : Int) b).1, AV.int IntKind.i64 (0 : Int)] [] [])))))) := by kernel_rfl
theorem vcTr8F (b : ByteArray) (Q : List AV → List Blk → List Blk → Prop) : (funA cxTr8 (LL Tryz.f4 []) Tryz.f4 [.str b] [] [] Q) = (
Gv (b.size ≤ maxSl)
  (Br (decide ((↑b.size : Int) > (3000 : Int))) (Q [AV.bool true] [] [])
    (Rq (rdPre b)
      (Rq
        ((mR3 (40 : Int) b).snd.snd = false →
          (mR3 (40 : Int) b).snd.fst.size = (0 : Nat) → fineNds (mR3 (40 : Int) b).fst)
        (Br (eql eqNd (rdL b) (r8L b)) (Br (rdE b == r8E b) (Q [AV.bool true] [] []) (Q [AV.bool false] [] []))
          (Q [AV.bool false] [] [])))))) := by kernel_rfl
end Go.Proofs.YtpbpabadbipfdaaGreatDoor.AX
end
section
namespace Go.Proofs.YtpbpabadbipfdaaGreatDoor.AXP
open Go Go.Proofs.YtpbpabadbipfdaaGreatDoor.AX
theorem tt_none {b : ByteArray} (h : takeT (kb b) = none) : ttE b ≠ 0 := by unfold ttE; rw [h]; decide
theorem tt_some {b : ByteArray} {x r : List UInt8} (h : takeT (kb b) = some (x, r)) : ttE b = 0 ∧ ttS b = bk x ∧ ttR b = bk r := by unfold ttE ttS ttR; rw [h]; exact ⟨rfl, rfl, rfl⟩
theorem tk_none {b : ByteArray} (h : takeN (kb b) = none) : tkE b ≠ 0 := by unfold tkE; rw [h]; decide
theorem tk_some {b : ByteArray} {n : Nat} {r : List UInt8} (h : takeN (kb b) = some (n, r)) : tkE b = 0 ∧ tkN b = n ∧ tkR b = bk r := by unfold tkE tkN tkR; rw [h]; exact ⟨rfl, rfl, rfl⟩
theorem aQ_p : ∀ (c : Nat) (b : ByteArray), pAtts c (kb b) = if (aQ c b).2.2 = true then some ((aQ c b).1, kb (aQ c b).2.1) else none
  | 0, b => rfl
  | c + 1, b => by
    rw [pAtts, aQ]
    cases h1 : takeT (kb b) with
    | none =>
      rw [if_pos (show ttE b ≠ 0 ∨ ttE (ttR b) ≠ 0 from .inl (tt_none h1))]; rfl
    | some p =>
      obtain ⟨x, r⟩ := p
      obtain ⟨e1, e2, e3⟩ := tt_some h1
      dsimp only
      rw [e3]
      cases h2 : takeT r with
      | none =>
        rw [if_pos (show ttE b ≠ 0 ∨ ttE (bk r) ≠ 0 from .inr (tt_none (b := bk r) (by rw [kb_bk]; exact h2)))]; rfl
      | some p =>
        obtain ⟨y, r'⟩ := p
        obtain ⟨f1, f2, f3⟩ := tt_some (b := bk r) (by rw [kb_bk]; exact h2)
        rw [if_neg (show ¬ (ttE b ≠ 0 ∨ ttE (bk r) ≠ 0) by rw [e1, f1]; simp)]
        dsimp only
        have := aQ_p c (bk r')
        rw [kb_bk] at this
        rw [f3, e2, f2, this]
        by_cases q : (aQ c (bk r')).2.2 = true
        · rw [if_pos q, if_pos q]
        · rw [if_neg q, if_neg q]
theorem mR3_p (d : Int) (b : ByteArray) : pNds (d + 1).toNat (kb b) = if (mR3 d b).2.2 = true then none else some ((mR3 d b).1, kb (mR3 d b).2.1) := by
  unfold mR3
  cases pNds (d + 1).toNat (kb b) with
  | none => rfl
  | some p => obtain ⟨l, r⟩ := p; dsimp only; rw [kb_bk]; rfl
theorem oT_p (d : Int) (b : ByteArray) : pNd (pNds d.toNat) (kb b) = if (oT d b).2.2 = true then none else some ((oT d b).1, kb (oT d b).2.1) := by
  unfold pNd oT
  cases h1 : takeN (kb b) with
  | none => rw [if_pos (show tkE b ≠ 0 ∨ tkN b > 3 from .inl (tk_none h1))]; rfl
  | some p =>
    obtain ⟨k, r⟩ := p
    obtain ⟨e1, e2, e3⟩ := tk_some h1
    rw [e1, e2, e3]
    dsimp only
    by_cases hk : k > 3
    · rw [if_pos hk, if_pos (show (0 : Int) ≠ 0 ∨ (k : Int) > 3 by omega)]; rfl
    rw [if_neg hk, if_neg (show ¬ ((0 : Int) ≠ 0 ∨ (k : Int) > 3) by omega)]
    by_cases hl : k = 2 ∨ k = 3
    · have hl' : ((k : Int) == 2 || (k : Int) == 3) = true := by rcases hl with rfl | rfl <;> rfl
      rw [if_pos hl, if_pos hl']
      cases h2 : takeT r with
      | none =>
        have := tt_none (b := bk r) (by rw [kb_bk]; exact h2)
        rw [if_pos (show (ttE (bk r) != 0) = true by simpa using this)]
      | some p =>
        obtain ⟨t, z⟩ := p
        obtain ⟨f1, f2, f3⟩ := tt_some (b := bk r) (by rw [kb_bk]; exact h2)
        rw [f1, f2, f3]
        dsimp only
        rw [kb_bk]; rfl
    have hl' : ¬ ((k : Int) == 2 || (k : Int) == 3) = true := by simp only [Bool.or_eq_true, beq_iff_eq]; omega
    rw [if_neg hl, if_neg hl']
    cases h2 : takeN r with
    | none => rw [if_pos (show tkE (bk r) ≠ 0 ∨ ttE (tkR (bk r)) ≠ 0 ∨ tkE (ttR (tkR (bk r))) ≠ 0 ∨ tkN (bk r) > 2 ∨ tkN (ttR (tkR (bk r))) > 12 from .inl (tk_none (b := bk r) (by rw [kb_bk]; exact h2)))]; rfl
    | some p =>
      obtain ⟨s, r1⟩ := p
      obtain ⟨f1, f2, f3⟩ := tk_some (b := bk r) (by rw [kb_bk]; exact h2)
      rw [f1, f2, f3]
      dsimp only
      cases h3 : takeT r1 with
      | none => rw [if_pos (show (0 : Int) ≠ 0 ∨ ttE (bk r1) ≠ 0 ∨ tkE (ttR (bk r1)) ≠ 0 ∨ (s : Int) > 2 ∨ tkN (ttR (bk r1)) > 12 from .inr (.inl (tt_none (b := bk r1) (by rw [kb_bk]; exact h3))))]; rfl
      | some p =>
        obtain ⟨m, r2⟩ := p
        obtain ⟨g1, g2, g3⟩ := tt_some (b := bk r1) (by rw [kb_bk]; exact h3)
        rw [g1, g2, g3]
        dsimp only
        cases h4 : takeN r2 with
        | none => rw [if_pos (show (0 : Int) ≠ 0 ∨ (0 : Int) ≠ 0 ∨ tkE (bk r2) ≠ 0 ∨ (s : Int) > 2 ∨ tkN (bk r2) > 12 from .inr (.inr (.inl (tk_none (b := bk r2) (by rw [kb_bk]; exact h4)))))]; rfl
        | some p =>
          obtain ⟨c, r3⟩ := p
          obtain ⟨i1, i2, i3⟩ := tk_some (b := bk r2) (by rw [kb_bk]; exact h4)
          rw [i1, i2, i3]
          dsimp only
          by_cases hc : s > 2 ∨ c > 12
          · rw [if_pos hc, if_pos (show (0 : Int) ≠ 0 ∨ (0 : Int) ≠ 0 ∨ (0 : Int) ≠ 0 ∨ (s : Int) > 2 ∨ (c : Int) > 12 by omega)]; rfl
          rw [if_neg hc, if_neg (show ¬ ((0 : Int) ≠ 0 ∨ (0 : Int) ≠ 0 ∨ (0 : Int) ≠ 0 ∨ (s : Int) > 2 ∨ (c : Int) > 12) by omega), Int.toNat_natCast]
          have ha := aQ_p c (bk r3)
          rw [kb_bk] at ha
          rw [ha]
          by_cases hq : (aQ c (bk r3)).2.2 = true
          · rw [if_pos hq, if_pos hq]
            dsimp only
            have hm := mR3_p (d - 1) (aQ c (bk r3)).2.1
            rw [show d - 1 + 1 = d by omega] at hm
            rw [hm]
            by_cases hb : (mR3 (d - 1) (aQ c (bk r3)).2.1).2.2 = true
            · rw [if_pos hb, if_pos hb]
            · rw [if_neg hb, if_neg hb]; rfl
          · rw [if_neg hq, if_neg hq]; rfl
theorem mQ_p (d : Int) : ∀ (c : Nat) (b : ByteArray), pMany (pNd (pNds d.toNat)) c (kb b) = if (mQ d c b).2.2 = true then some ((mQ d c b).1, kb (mQ d c b).2.1) else none
  | 0, b => rfl
  | c + 1, b => by
    rw [pMany, mQ, oT_p]
    by_cases h : (oT d b).2.2 = true
    · rw [if_pos h, if_pos h]; rfl
    · rw [if_neg h, if_neg h]
      dsimp only
      rw [mQ_p d c]
      by_cases q : (mQ d c (oT d b).2.1).2.2 = true
      · rw [if_pos q, if_pos q]
      · rw [if_neg q, if_neg q]
theorem mR3_bad (d : Int) {b : ByteArray} (h : pNds (d + 1).toNat (kb b) = none) : mR3 d b = ([], ⟨#[]⟩, true) := by unfold mR3; rw [h]
theorem mR3_step {d : Int} (hd : 0 ≤ d) {b : ByteArray} : mR3 d b = if tkE b ≠ 0 ∨ tkN b > 300 then ([], ⟨#[]⟩, true) else if (mQ d (tkN b).toNat (tkR b)).2.2 = true then ((mQ d (tkN b).toNat (tkR b)).1, (mQ d (tkN b).toNat (tkR b)).2.1, false) else ([], ⟨#[]⟩, true) := by
  have e : (d + 1).toNat = d.toNat + 1 := by omega
  unfold mR3
  rw [e, pNds]
  cases h1 : takeN (kb b) with
  | none => rw [if_pos (show tkE b ≠ 0 ∨ tkN b > 300 from .inl (tk_none h1))]
  | some p =>
    obtain ⟨k, r⟩ := p
    obtain ⟨e1, e2, e3⟩ := tk_some h1
    rw [e1, e2, e3]
    dsimp only
    by_cases hk : k > 300
    · rw [if_pos hk, if_pos (show (0 : Int) ≠ 0 ∨ (k : Int) > 300 by omega)]
    · rw [if_neg hk, if_neg (show ¬ ((0 : Int) ≠ 0 ∨ (k : Int) > 300) by omega), Int.toNat_natCast]
      have := mQ_p d k (bk r)
      rw [kb_bk] at this
      rw [this]
      by_cases q : (mQ d k (bk r)).2.2 = true
      · rw [if_pos q, if_pos q]; dsimp only; rw [bk_kb]
      · rw [if_neg q, if_neg q]
theorem mQ_len (d : Int) : ∀ (c : Nat) (b : ByteArray), (mQ d c b).1.length ≤ c
  | 0, b => Nat.le_refl _
  | c + 1, b => by
    rw [mQ]
    split
    · exact Nat.zero_le _
    · have := mQ_len d c (oT d b).2.1
      show _ + 1 ≤ _
      omega
theorem r8_pre {b : ByteArray} (hb : b.size ≤ 3000) : r8Pre b := fun h _ => by
  have := mR3_p 40 b
  rw [if_neg (by rw [h]; decide)] at this
  obtain ⟨q1, q2⟩ := pNds_len 41 _ _ _ this (by rw [kb_size]; exact hb)
  have := kb_size b
  exact ⟨by omega, q2⟩
theorem rd_same {b : ByteArray} : rdL b = r8L b ∧ rdE b = r8E b := by
  have key : rdOK b = true → (mR3 40 b) = ((rdS b).1, bk [], false) ∧ checkS (rdS b).1 = 0 := fun h => by
    unfold rdOK at h
    simp only [Bool.and_eq_true, Bool.not_eq_true', beq_iff_eq] at h
    obtain ⟨⟨h1, h2⟩, h3⟩ := h
    obtain ⟨r, h4, h5⟩ := rd_inv h1
    rw [h5] at h2
    have hr : r = [] := by
      have := congrArg kb (eqS_bk h2)
      rw [kb_bk, kb_bk] at this; exact this
    subst hr
    refine ⟨?_, h3⟩
    unfold mR3
    rw [show ((40 : Int) + 1).toNat = 41 from rfl, h4]
  have key2 : r8OK b = true → rdS b = ((mR3 40 b).1, ⟨bk [], 300 - cntNds (mR3 40 b).1, false⟩) ∧ checkS (mR3 40 b).1 = 0 := fun h => by
    unfold r8OK at h
    simp only [Bool.and_eq_true, Bool.not_eq_true', beq_iff_eq] at h
    obtain ⟨⟨h1, h2⟩, h3⟩ := h
    have hp := mR3_p 40 b
    rw [if_neg (by rw [h1]; decide)] at hp
    have hr := eqS_bk h2
    have hz : kb (mR3 40 b).2.1 = [] := by rw [hr, kb_bk]
    rw [hz] at hp
    have hc := (check_zero h3).1
    exact ⟨rNds_ok 43 1 ⟨b, 300, false⟩ _ [] (by decide) rfl hp (by dsimp only; omega), h3⟩
  have e : rdOK b = r8OK b := by
    cases hq : r8OK b with
    | true =>
      obtain ⟨k1, k2⟩ := key2 hq
      unfold rdOK
      rw [k1, k2]
      dsimp only
      rw [show eqS (bk []) ⟨#[]⟩ = true from eqS_iff.2 rfl]; rfl
    | false =>
      cases hr : rdOK b with
      | false => rfl
      | true =>
        obtain ⟨k1, k2⟩ := key hr
        unfold r8OK at hq
        rw [k1, k2] at hq
        dsimp only at hq
        rw [show eqS (bk []) ⟨#[]⟩ = true from eqS_iff.2 rfl] at hq
        cases hq
  unfold rdL r8L rdE r8E
  rw [e]
  refine ⟨?_, rfl⟩
  split
  · rename_i h
    rw [(key2 h).1]
  · rfl
end Go.Proofs.YtpbpabadbipfdaaGreatDoor.AXP
namespace Go.Proofs.YtpbpabadbipfdaaGreatDoor.AX
open Go AXP
set_option maxRecDepth 100000
def blO (z0 z1 o0 o1 c ce : Int) (z2 z4 z7 o2 o4 o7 cs cr : ByteArray) (z8 o8 : Bool) (cl : List ByteArray) : List At → List Blk
  | [] => [.box [.int .i64 z0, .int .i64 z1, .str z2, .nil, .str z4, .nil, .nil, .str z7, .bool z8], .box [.int .i64 o0, .int .i64 o1, .str o2, .nil, .str o4, .nil, .nil, .str o7, .bool o8], .box [.int .i64 c, .str cs, .row .str cl, .str cr, .int .i64 ce]]
  | x :: l => [.box [.int .i64 z0, .int .i64 z1, .str z2, .nil, .str z4, .nil, .nil, .str z7, .bool z8], .box [.int .i64 o0, .int .i64 o1, .str o2, .own 3 0, .str o4, .nil, .nil, .str o7, .bool o8], .box [.int .i64 c, .str cs, .row .str cl, .str cr, .int .i64 ce], .rowb 0 .attr (x :: l)]
theorem one_sum (j : Nat) : SumOK (cxOne8 j) (LL Tryz.f52 [lsOne8]) Tryz.f52.ntmps (loopAt Tryz.f52 0).1 (loopAt Tryz.f52 0).2 lsOne8 := by
  intro vs bs K hs
  unfold lsOne8 at hs
  simp only at hs
  split at hs
  case h_2 => exact hs.elim
  rename_i d b i z0 z1 z2 z4 z7 z8 o0 o1 o2 o4 o7 o8 c cs cl cr ce
  obtain ⟨⟨rfl, h0, h12⟩, h⟩ := hs
  obtain ⟨c, rfl⟩ := Int.eq_ofNat_of_zero_le h0
  rw [Int.toNat_natCast] at h
  have hmx : maxSl = 140737488355328 := rfl
  refine sum_rec (σ := Nat × ByteArray × List At) (fun s => [.int .i64 d, .ptr 0 0, .ptr 1 0, .ptr 2 0, .str s.2.1, .int .i64 (s.1 : Nat)]) (fun s => blO z0 z1 o0 o1 c ce z2 z4 z7 o2 o4 o7 cs cr z8 o8 cl s.2.2) (fun s => s.1 ≤ c ∧ s.2.2.length ≤ s.1 ∧ s.2.2 ++ (aQ (c - s.1) s.2.1).1 = (aQ c b).1 ∧ (aQ (c - s.1) s.2.1).2 = (aQ c b).2) (fun s => c - s.1) ?_ (0, b, []) ⟨Nat.zero_le _, Nat.le_refl _, rfl, rfl⟩
  rintro ⟨i, b', acc⟩ ⟨h1, h2, h3, h4⟩ R hR
  dsimp only at h1 h2 h3 h4 hR ⊢
  have ew : i < c → IntKind.i64.wrap ((i : Int) + 1) = ((i + 1 : Nat) : Int) := fun _ => by rw [wrap_id'] <;> omega
  have stop : i < c → ttE b' ≠ 0 ∨ ttE (ttR b') ≠ 0 → (aQ c b).1 = acc ∧ (aQ c b).2.1 = b' ∧ (aQ c b).2.2 = false := fun hi q => by
    obtain ⟨f, hf⟩ : ∃ f, c - i = f + 1 := ⟨c - i - 1, by omega⟩
    rw [hf, aQ, if_pos q] at h3 h4
    rw [List.append_nil] at h3
    rw [← h3, ← h4]; exact ⟨rfl, rfl, rfl⟩
  have done : c ≤ i → (aQ c b).1 = acc ∧ (aQ c b).2.1 = b' ∧ (aQ c b).2.2 = true := fun hi => by
    rw [show c - i = 0 by omega, aQ] at h3 h4
    rw [List.append_nil] at h3
    rw [← h3, ← h4]; exact ⟨rfl, rfl, rfl⟩
  have next : i < c → ¬ (ttE b' ≠ 0 ∨ ttE (ttR b') ≠ 0) → R [.int .i64 d, .ptr 0 0, .ptr 1 0, .ptr 2 0, .str (ttR (ttR b')), .int .i64 ((i + 1 : Nat) : Int)] (blO z0 z1 o0 o1 c ce z2 z4 z7 o2 o4 o7 cs cr z8 o8 cl (acc ++ [⟨ttS b', ttS (ttR b')⟩])) := fun hi q => by
    obtain ⟨f, hf⟩ : ∃ f, c - i = f + 1 := ⟨c - i - 1, by omega⟩
    rw [hf, aQ, if_neg q] at h3 h4
    refine hR (i + 1, ttR (ttR b'), acc ++ [⟨ttS b', ttS (ttR b')⟩]) ⟨by dsimp only; omega, ?_, ?_, ?_⟩ (by dsimp only; omega)
    · dsimp only; rw [List.length_append]; simp only [List.length_cons, List.length_nil]; omega
    · dsimp only; rw [show c - (i + 1) = f by omega, List.append_assoc]; exact h3
    · dsimp only; rw [show c - (i + 1) = f by omega]; exact h4
  cases acc with
  | nil =>
    refine Eq.mpr (vcOne0 j d i z0 z1 o0 o1 c ce b' z2 z4 z7 o2 o4 o7 cs cr z8 o8 cl _) ⟨fun q => ?_, fun q => ?_⟩
    · have q : i < c := by have := of_decide_eq_true q; omega
      rw [ew q]
      refine ⟨fun g1 => ?_, fun g1 => ⟨fun g2 => ?_, fun g2 => Rq.mk (show 1 * 32 ≤ maxSl by decide) (next q ?_)⟩⟩
      · obtain ⟨a1, a2, a3⟩ := stop q (.inl (by simpa using g1))
        rw [a1, a2, a3] at h
        exact (h.no rfl).yes rfl
      · obtain ⟨a1, a2, a3⟩ := stop q (.inr (by simpa using g2))
        rw [a1, a2, a3] at h
        exact (h.no rfl).yes rfl
      · have g1 : ttE b' = 0 := by simpa using g1
        have g2 : ttE (ttR b') = 0 := by simpa using g2
        rw [g1, g2]; simp
    · have q := of_decide_eq_false q
      obtain ⟨a1, a2, a3⟩ := done (by omega)
      rw [a1, a2, a3] at h
      exact (h.yes rfl).yes rfl
  | cons x l =>
    refine Eq.mpr (vcOne1 j d i z0 z1 o0 o1 c ce b' z2 z4 z7 o2 o4 o7 cs cr z8 o8 cl (x :: l) _) ⟨fun q => ?_, fun q => ?_⟩
    · have q : i < c := by have := of_decide_eq_true q; omega
      rw [ew q]
      refine ⟨fun g1 => ?_, fun g1 => ⟨fun g2 => ?_, fun g2 => Rq.mk ?_ (next q ?_)⟩⟩
      · obtain ⟨a1, a2, a3⟩ := stop q (.inl (by simpa using g1))
        rw [a1, a2, a3] at h
        exact (h.no rfl).no rfl
      · obtain ⟨a1, a2, a3⟩ := stop q (.inr (by simpa using g2))
        rw [a1, a2, a3] at h
        exact (h.no rfl).no rfl
      · simp only [List.length_cons, List.length_nil] at h2 ⊢; omega
      · have g1 : ttE b' = 0 := by simpa using g1
        have g2 : ttE (ttR b') = 0 := by simpa using g2
        rw [g1, g2]; simp
    · have q := of_decide_eq_false q
      obtain ⟨a1, a2, a3⟩ := done (by omega)
      rw [a1, a2, a3] at h
      exact (h.yes rfl).no rfl
def gotOf (n : Nd) (l : List Nd) (r : ByteArray) (e : Bool) : AV := .agg [.int .i64 n.kind, .int .i64 n.space, .str n.name, .row .attr n.attrs, .str n.text, .row .node n.kids, .row .node l, .str r, .bool e]
theorem one_of (j : Nat) (hm : Holds 24 (conMany j)) : Holds 52 (conOne j) := conP_holds fun b d => by
  rcases (show ∃ w : ByteArray, w = b from ⟨_, rfl⟩) with ⟨b, rfl⟩
  rcases (show ∃ w : Int, w = d from ⟨_, rfl⟩) with ⟨d, rfl⟩
  refine fun_meets1 (AllH.tok (.cons tkN1_holds (by kernel_rfl) (.cons tkT1_holds (by kernel_rfl) (.cons hm (by kernel_rfl) .nil)))) [.as, .as, .as, .row .attr, .as, .row .node, .row .node, .as, .as] lsOne8 (by kernel_rfl) (by kernel_rfl) (one_sum j) fun hpre => Eq.mpr (vcOneF j b d _) ?_
  obtain ⟨p1, p2, p3⟩ : (d + 1).toNat < j ∧ 0 ≤ d ∧ d ≤ 40 := hpre _ rfl
  have fin : ∀ n r e, oT d b = (n, r, e) → [gotOf n [] r e] = compsOf (gotOf (oT d b).1 [] (oT d b).2.1 (oT d b).2.2) := fun n r e h => by rw [h]; rfl
  have ew : IntKind.i64.wrap (d - 1) = d - 1 := by rw [wrap_id'] <;> omega
  rw [ew]
  have hd : oT d b = oT d b := rfl
  conv at hd => rhs; unfold oT
  refine ⟨fun g1 => qfin rfl (fin zN _ _ ?_) rfl rfl, fun g1 => ⟨fun g2 => qfin rfl (fin zN _ _ ?_) rfl rfl, fun g2 => ?_⟩⟩
  · have g1 : tkE b ≠ 0 := by simpa using g1
    exact hd.trans (if_pos (.inl g1))
  · have g2 : tkN b > 3 := of_decide_eq_true g2
    exact hd.trans (if_pos (.inr g2))
  have g1 : tkE b = 0 := by simpa using g1
  have g2 : ¬ tkN b > 3 := of_decide_eq_false g2
  rw [if_neg (show ¬ (tkE b ≠ 0 ∨ tkN b > 3) from fun h => h.elim (fun h => h g1) g2)] at hd
  refine ⟨fun g3 => qfin rfl (fin _ _ _ (hd.trans (if_pos (by rw [g3]; rfl)))) rfl rfl, fun g3 => ⟨fun g4 => qfin rfl (fin _ _ _ (hd.trans (if_pos (by rw [g4, Bool.or_true])))) rfl rfl, fun g4 => ?_⟩⟩
  rw [if_neg (show ¬ (tkN b == 2 || tkN b == 3) = true by rw [g3, g4]; decide)] at hd
  refine ⟨fun h1 => qfin rfl (fin zN _ _ (hd.trans (if_pos (.inl (by simpa using h1))))) rfl rfl, fun h1 => ⟨fun h2 => qfin rfl (fin zN _ _ (hd.trans (if_pos (.inr (.inl (by simpa using h2)))))) rfl rfl, fun h2 => ⟨fun h3 => qfin rfl (fin zN _ _ (hd.trans (if_pos (.inr (.inr (.inl (by simpa using h3))))))) rfl rfl, fun h3 => ⟨fun h4 => qfin rfl (fin zN _ _ (hd.trans (if_pos (.inr (.inr (.inr (.inl (of_decide_eq_true h4)))))))) rfl rfl, fun h4 => ⟨fun h5 => qfin rfl (fin zN _ _ (hd.trans (if_pos (.inr (.inr (.inr (.inr (of_decide_eq_true h5)))))))) rfl rfl, fun h5 => ?_⟩⟩⟩⟩⟩
  have h1 : tkE (tkR b) = 0 := by simpa using h1
  have h2 : ttE (tkR (tkR b)) = 0 := by simpa using h2
  have h3 : tkE (ttR (tkR (tkR b))) = 0 := by simpa using h3
  have h4 := of_decide_eq_false h4
  have h5 := of_decide_eq_false h5
  rw [if_neg (show ¬ (tkE (tkR b) ≠ 0 ∨ ttE (tkR (tkR b)) ≠ 0 ∨ tkE (ttR (tkR (tkR b))) ≠ 0 ∨ tkN (tkR b) > 2 ∨ tkN (ttR (tkR (tkR b))) > 12) by rw [h1, h2, h3]; simp; omega)] at hd
  have hn : 0 ≤ tkN (ttR (tkR (tkR b))) := by unfold tkN; split <;> omega
  refine Rq.mk ⟨rfl, hn, by omega⟩ ⟨fun q => ⟨fun q2 => Rq.mk ⟨by omega, by omega, by omega⟩ (qfin rfl ?_ rfl rfl), fun q2 => Rq.mk ⟨by omega, by omega, by omega⟩ (qfin rfl (fin _ _ _ (hd.trans (if_pos q))) rfl rfl)⟩, fun q => ⟨fun _ => qfin rfl (fin zN _ _ (hd.trans (if_neg (by rw [q]; decide)))) rfl rfl, fun _ => qfin rfl (fin zN _ _ (hd.trans (if_neg (by rw [q]; decide)))) rfl rfl⟩⟩
  have q3 := List.eq_nil_of_length_eq_zero (of_decide_eq_true q2)
  have := fin _ _ _ (hd.trans (if_pos q))
  rw [q3] at this
  exact this
def blM (z0 z1 o0 o1 c ce : Int) (z2 z4 z7 o2 o4 cs cr b : ByteArray) (z8 o8 : Bool) (cl : List ByteArray) : List Nd → List Blk
  | [] => [.box [.int .i64 z0, .int .i64 z1, .str z2, .nil, .str z4, .nil, .nil, .str z7, .bool z8], .box [.int .i64 c, .str cs, .row .str cl, .str cr, .int .i64 ce], .box [.int .i64 o0, .int .i64 o1, .str o2, .nil, .str o4, .nil, .nil, .str b, .bool o8]]
  | x :: l => [.box [.int .i64 z0, .int .i64 z1, .str z2, .nil, .str z4, .nil, .nil, .str z7, .bool z8], .box [.int .i64 c, .str cs, .row .str cl, .str cr, .int .i64 ce], .box [.int .i64 o0, .int .i64 o1, .str o2, .nil, .str o4, .nil, .own 3 0, .str b, .bool o8], .rowb 0 .node (x :: l)]
theorem many_sum (j : Nat) : SumOK (cxMany j) (LL Tryz.f24 [lsMany j]) Tryz.f24.ntmps (loopAt Tryz.f24 0).1 (loopAt Tryz.f24 0).2 (lsMany j) := by
  intro vs bs K hs
  unfold lsMany at hs
  simp only at hs
  split at hs
  case h_2 => exact hs.elim
  rename_i d i z0 z1 z2 z4 z7 z8 c cs cl cr ce o0 o1 o2 o4 b o8
  obtain ⟨⟨rfl, h0, h12, p1, p2, p3⟩, h⟩ := hs
  obtain ⟨c, rfl⟩ := Int.eq_ofNat_of_zero_le h0
  rw [Int.toNat_natCast] at h
  have hmx : maxSl = 140737488355328 := rfl
  refine sum_rec (σ := Nat × ByteArray × List Nd) (fun s => [.int .i64 d, .ptr 0 0, .ptr 1 0, .ptr 2 0, .int .i64 (s.1 : Nat)]) (fun s => blM z0 z1 o0 o1 c ce z2 z4 z7 o2 o4 cs cr s.2.1 z8 o8 cl s.2.2) (fun s => s.1 ≤ c ∧ s.2.2.length ≤ s.1 ∧ s.2.2 ++ (mQ d (c - s.1) s.2.1).1 = (mQ d c b).1 ∧ (mQ d (c - s.1) s.2.1).2 = (mQ d c b).2) (fun s => c - s.1) ?_ (0, b, []) ⟨Nat.zero_le _, Nat.le_refl _, rfl, rfl⟩
  rintro ⟨i, b', acc⟩ ⟨h1, h2, h3, h4⟩ R hR
  dsimp only at h1 h2 h3 h4 hR ⊢
  have ew : i < c → IntKind.i64.wrap ((i : Int) + 1) = ((i + 1 : Nat) : Int) := fun _ => by rw [wrap_id'] <;> omega
  have stop : i < c → (oT d b').2.2 = true → (mQ d c b).1 = acc ∧ (mQ d c b).2.1 = b' ∧ (mQ d c b).2.2 = false := fun hi q => by
    obtain ⟨f, hf⟩ : ∃ f, c - i = f + 1 := ⟨c - i - 1, by omega⟩
    rw [hf, mQ, if_pos q] at h3 h4
    rw [List.append_nil] at h3
    rw [← h3, ← h4]; exact ⟨rfl, rfl, rfl⟩
  have done : c ≤ i → (mQ d c b).1 = acc ∧ (mQ d c b).2.1 = b' ∧ (mQ d c b).2.2 = true := fun hi => by
    rw [show c - i = 0 by omega, mQ] at h3 h4
    rw [List.append_nil] at h3
    rw [← h3, ← h4]; exact ⟨rfl, rfl, rfl⟩
  have next : i < c → ¬ (oT d b').2.2 = true → R [.int .i64 d, .ptr 0 0, .ptr 1 0, .ptr 2 0, .int .i64 ((i + 1 : Nat) : Int)] (blM z0 z1 o0 o1 c ce z2 z4 z7 o2 o4 cs cr (oT d b').2.1 z8 o8 cl (acc ++ [(oT d b').1])) := fun hi q => by
    obtain ⟨f, hf⟩ : ∃ f, c - i = f + 1 := ⟨c - i - 1, by omega⟩
    rw [hf, mQ, if_neg q] at h3 h4
    refine hR (i + 1, (oT d b').2.1, acc ++ [(oT d b').1]) ⟨by dsimp only; omega, ?_, ?_, ?_⟩ (by dsimp only; omega)
    · dsimp only; rw [List.length_append]; simp only [List.length_cons, List.length_nil]; omega
    · dsimp only; rw [show c - (i + 1) = f by omega, List.append_assoc]; exact h3
    · dsimp only; rw [show c - (i + 1) = f by omega]; exact h4
  cases acc with
  | nil =>
    refine Eq.mpr (vcMany0 j d i z0 z1 o0 o1 c ce b' z2 z4 z7 o2 o4 cs cr z8 o8 cl _) ⟨fun q => ?_, fun q => ?_⟩
    · have q : i < c := by have := of_decide_eq_true q; omega
      rw [ew q]
      simp only [nd_eta]
      refine Rq.mk ⟨p1, p2, p3⟩ ⟨fun g1 => ?_, fun g1 => Rq.mk (show 1 * 96 ≤ maxSl by decide) (next q (by rw [g1]; decide))⟩
      obtain ⟨a1, a2, a3⟩ := stop q g1
      rw [a1, a2, a3] at h
      exact (h.no rfl).yes rfl
    · have q := of_decide_eq_false q
      obtain ⟨a1, a2, a3⟩ := done (by omega)
      rw [a1, a2, a3] at h
      exact (h.yes rfl).yes rfl
  | cons x l =>
    refine Eq.mpr (vcMany1 j d i z0 z1 o0 o1 c ce b' z2 z4 z7 o2 o4 cs cr z8 o8 cl (x :: l) _) ⟨fun q => ?_, fun q => ?_⟩
    · have q : i < c := by have := of_decide_eq_true q; omega
      rw [ew q]
      simp only [nd_eta]
      refine Rq.mk ⟨p1, p2, p3⟩ ⟨fun g1 => ?_, fun g1 => Rq.mk ?_ (next q (by rw [g1]; decide))⟩
      · obtain ⟨a1, a2, a3⟩ := stop q g1
        rw [a1, a2, a3] at h
        exact (h.no rfl).no rfl
      · simp only [List.length_cons, List.length_nil] at h2 ⊢; omega
    · have q := of_decide_eq_false q
      obtain ⟨a1, a2, a3⟩ := done (by omega)
      rw [a1, a2, a3] at h
      exact (h.yes rfl).no rfl
theorem many_lt : ∀ k, Holds 24 (conMany k)
  | 0 => conP_holds fun b d => by
    intro F I w vals _ _ hpre
    exact absurd (hpre _ rfl).1 (Nat.not_lt_zero _)
  | k + 1 => conP_holds fun b d => by
    rcases (show ∃ w : ByteArray, w = b from ⟨_, rfl⟩) with ⟨b, rfl⟩
    rcases (show ∃ w : Int, w = d from ⟨_, rfl⟩) with ⟨d, rfl⟩
    refine fun_meets1 (AllH.tok (.cons tkN1_holds (by kernel_rfl) (.cons (one_of k (many_lt k)) (by kernel_rfl) .nil))) [.as, .as, .as, .row .attr, .as, .row .node, .row .node, .as, .as] (lsMany k) (by kernel_rfl) (by kernel_rfl) (many_sum k) fun hpre => Eq.mpr (vcManyF k b d _) ?_
    obtain ⟨p1, p2, p3⟩ : (d + 2).toNat < k + 1 ∧ -1 ≤ d ∧ d ≤ 40 := hpre _ rfl
    have fin : ∀ l r e, mR3 d b = (l, r, e) → [gotOf zN l r e] = compsOf (gotOf zN (mR3 d b).1 (mR3 d b).2.1 (mR3 d b).2.2) := fun l r e h => by rw [h]; rfl
    have neg : d < 0 → mR3 d b = ([], ⟨#[]⟩, true) := fun h => mR3_bad d (by rw [show (d + 1).toNat = 0 by omega]; rfl)
    have bad : tkE b ≠ 0 ∨ tkN b > 300 → mR3 d b = ([], ⟨#[]⟩, true) := fun h => by
      rcases Int.lt_or_le d 0 with h' | h'
      · exact neg h'
      · rw [mR3_step h', if_pos h]
    refine ⟨fun g1 => qfin rfl (fin _ _ _ (bad (.inl (by simpa using g1)))) rfl rfl, fun g1 => ⟨fun g2 => qfin rfl (fin _ _ _ (bad (.inr (of_decide_eq_true g2)))) rfl rfl, fun g2 => ⟨fun g3 => qfin rfl (fin _ _ _ (neg (of_decide_eq_true g3))) rfl rfl, fun g3 => ?_⟩⟩⟩
    have g1 : tkE b = 0 := by simpa using g1
    have g2 : ¬ tkN b > 300 := of_decide_eq_false g2
    have g3 := of_decide_eq_false g3
    have hst := mR3_step (d := d) (by omega) (b := b)
    rw [if_neg (show ¬ (tkE b ≠ 0 ∨ tkN b > 300) from fun h => h.elim (fun h => h g1) g2)] at hst
    have hn : 0 ≤ tkN b := by unfold tkN; split <;> omega
    refine Rq.mk ⟨rfl, hn, by omega, by omega, by omega, by omega⟩ ⟨fun q => ⟨fun q2 => qfin rfl ?_ rfl rfl, fun q2 => qfin rfl (fin _ _ _ (hst.trans (if_pos q))) rfl rfl⟩, fun q => ⟨fun _ => qfin rfl (fin _ _ _ (hst.trans (if_neg (by rw [q]; decide)))) rfl rfl, fun _ => qfin rfl (fin _ _ _ (hst.trans (if_neg (by rw [q]; decide)))) rfl rfl⟩⟩
    have q3 := List.eq_nil_of_length_eq_zero (of_decide_eq_true q2)
    have := fin _ _ _ (hst.trans (if_pos q))
    rw [q3] at this
    exact this
theorem rd8_holds : Holds 10 conRd8 := conP_holds fun b => by
  rcases (show ∃ w : ByteArray, w = b from ⟨_, rfl⟩) with ⟨b, rfl⟩
  refine fun_meets0 (AllH.tok (.cons (many_lt 43) (by kernel_rfl) (.cons ck8_holds (by kernel_rfl) .nil))) [.row .node, .as] (by kernel_rfl) (by kernel_rfl) fun hpre => Eq.mpr (vcRd8F b _) ?_
  have hf : r8Pre b := hpre _ rfl
  have no : r8OK b = false → FinQ { pre := some (r8Pre b), res := .tup [.row .node (r8L b), .int .i64 (r8E b)] } [AV.row Ty.node [], AV.int .i64 4] [] [] := fun h => by
    refine qfin rfl ?_ rfl rfl
    show _ = [AV.row Ty.node (r8L b), AV.int .i64 (r8E b)]
    unfold r8L r8E; rw [h]; rfl
  refine Rq.mk ⟨by decide, by decide, by decide⟩ ⟨fun h => no ?_, fun h => ⟨fun h1 => no ?_, fun h1 => Rq.mk (hf h ?_) ⟨fun h2 => no ?_, fun h2 => ?_⟩⟩⟩
  · unfold r8OK; rw [h]; rfl
  · have h1 : eqS (mR3 40 b).2.1 ⟨#[]⟩ = false := by rw [← Bool.not_eq_true']; exact h1
    unfold r8OK; rw [h1, Bool.and_false]; rfl
  · have h1 : eqS (mR3 40 b).2.1 ⟨#[]⟩ = true := by rw [← Bool.not_eq_false']; exact h1
    exact eqS_nil.1 h1
  · have h2 : (checkS (mR3 40 b).1 == 0) = false := by simpa using h2
    unfold r8OK; rw [h2, Bool.and_false]
  · have h1 : eqS (mR3 40 b).2.1 ⟨#[]⟩ = true := by rw [← Bool.not_eq_false']; exact h1
    have h2 : (checkS (mR3 40 b).1 == 0) = true := by simpa using h2
    have ok : r8OK b = true := by unfold r8OK; rw [h, h1, h2]; rfl
    refine qfin rfl ?_ rfl rfl
    show _ = [AV.row Ty.node (r8L b), AV.int .i64 (r8E b)]
    unfold r8L r8E; rw [ok]; rfl
theorem treeReads_ax : Holds 4 conTr8 := conP_holds fun b => by
  rcases (show ∃ w : ByteArray, w = b from ⟨_, rfl⟩) with ⟨b, rfl⟩
  refine fun_meets0 (AllH.tok (.cons t8_holds (by kernel_rfl) (.cons read_holds (by kernel_rfl) (.cons rd8_holds (by kernel_rfl) (.cons nodes_holds (by kernel_rfl) .nil))))) [] (by kernel_rfl) (by kernel_rfl) fun _ => Eq.mpr (vcTr8F b _) ?_
  refine ⟨fun _ => ⟨fun _ => qfin rfl rfl rfl rfl, fun h1 => ?_⟩⟩
  have hb : b.size ≤ 3000 := by have := of_decide_eq_false h1; omega
  obtain ⟨e1, e2⟩ := rd_same (b := b)
  rw [e1, e2, eql_refl]
  have b2 : (r8E b == r8E b) = true := beq_self_eq_true _
  rw [b2]
  exact Rq.mk (pre_small hb) (Rq.mk (r8_pre hb) ⟨fun _ => ⟨fun _ => qfin rfl rfl rfl rfl, fun h => absurd h (by decide)⟩, fun h => absurd h (by decide)⟩)
end Go.Proofs.YtpbpabadbipfdaaGreatDoor.AX
end
section
namespace Go.Proofs.YtpbpabadbipfdaaGreatDoor.AXP
open Go Go.Proofs.YtpbpabadbipfdaaGreatDoor.AX
def inI (n : Int) : Prop := -9223372036854775808 ≤ n ∧ n < 9223372036854775808
mutual
def rngNd : Nd → Prop
  | ⟨k, s, _, _, _, c⟩ => inI k ∧ inI s ∧ rngNds c
def rngNds : List Nd → Prop
  | [] => True
  | n :: l => rngNd n ∧ rngNds l
end
def rngEd (x : Ed) : Prop := inI x.what ∧ (∀ n ∈ x.way, inI n) ∧ rngNd x.old ∧ rngNd x.new
def rngEds (s : List Ed) : Prop := ∀ x ∈ s, rngEd x
theorem rngNds_of : ∀ {l : List Nd}, (∀ x ∈ l, rngNd x) → rngNds l
  | [], _ => by rw [rngNds]; trivial
  | x :: l, h => by rw [rngNds]; exact ⟨h x (.head _), rngNds_of fun y hy => h y (.tail _ hy)⟩
end Go.Proofs.YtpbpabadbipfdaaGreatDoor.AXP
end
section
namespace Go.Proofs.YtpbpabadbipfdaaGreatDoor.AX
open Go Go.RowKit AXP
theorem list_of {α : Type} {Q : Nat → α → Prop} : ∀ n : Nat, (∀ i, i < n → ∃ x, Q i x) → ∃ l : List α, l.length = n ∧ ∀ i x, l[i]? = some x → Q i x
  | 0, _ => ⟨[], rfl, fun i x h => by simp at h⟩
  | n + 1, h => by
    obtain ⟨l, hl, hq⟩ := list_of n fun i hi => h i (by omega)
    obtain ⟨x, hx⟩ := h n (by omega)
    refine ⟨l ++ [x], by rw [List.length_append, hl]; rfl, fun i y hy => ?_⟩
    rcases Nat.lt_or_ge i n with z | z
    · rw [List.getElem?_append_left (by omega)] at hy; exact hq i y hy
    · rw [List.getElem?_append_right (by omega), hl] at hy
      have : i - n = 0 := by
        rcases Nat.eq_zero_or_pos (i - n) with w | w
        · exact w
        · rw [List.getElem?_eq_none (by simp only [List.length_cons, List.length_nil]; omega)] at hy; cases hy
      rw [this] at hy
      obtain rfl : x = y := by simpa using hy
      obtain rfl : i = n := by omega
      exact hx
theorem mapM_spec {α : Type} (f : Nat → Option α) : ∀ (l : List Nat) (cs : List α), l.mapM f = some cs → cs.length = l.length ∧ ∀ (j : Nat) (u : α), cs[j]? = some u → ∃ i, l[j]? = some i ∧ f i = some u
  | [], cs, h => by simp at h; subst h; exact ⟨rfl, fun j u h => by simp at h⟩
  | i :: l, cs, h => by
    simp only [List.mapM_cons, Option.bind_eq_bind, Option.bind_eq_some_iff, Option.pure_def, Option.some.injEq] at h
    obtain ⟨x, hx, ys, hy, rfl⟩ := h
    obtain ⟨h1, h2⟩ := mapM_spec f l ys hy
    refine ⟨by simp [h1], fun j u hu => ?_⟩
    cases j with
    | zero => simp at hu; subst hu; exact ⟨i, rfl, hx⟩
    | succ j => simpa using h2 j u (by simpa using hu)
theorem cells_spec {w : World} {base n : Nat} {a : Addr} {cs : List Value} (h : w.cells? base a n = some cs) : cs.length = n ∧ ∀ j u, cs[j]? = some u → w.cell? (a.add j) = some u := by
  unfold World.cells? at h
  split at h
  · obtain ⟨h1, h2⟩ := mapM_spec _ _ _ h
    refine ⟨by simpa using h1, fun j u hu => ?_⟩
    obtain ⟨i, hi, hf⟩ := h2 j u hu
    obtain ⟨hlt, e⟩ := List.getElem?_eq_some_iff.1 hi
    simp at e
    subst e
    exact hf
  · cases h
theorem spot_of {w : World} {a : Addr} {v : Value} (h : w.cell? a = some v) : a.spot = none := by
  unfold World.cell? at h
  split at h
  · split at h
    · cases h
    · rename_i hs; simpa using hs
  · cases h
section
variable {H : Type} {enc : TypeId × Value → H} {w : World} {base : Nat} {spare : Nat → Bool} {held : Bool} {O : Nat → Prop} {I : Im}
def Small (t : TypeId) (d : DataW H) : Prop := ∀ n ∈ d.weights Tryz.prog t, n ≤ reachBytes
theorem small_all {e : TypeId} : ∀ {ds : List (DataW H)} {i : Nat} {d : DataW H}, ds[i]? = some d → ∀ n ∈ d.weights Tryz.prog e, n ∈ DataW.weightsAll Tryz.prog e ds
  | [], _, _, h, _, _ => by simp at h
  | x :: ds, 0, d, h, n, hn => by simp at h; subst h; rw [DataW.weightsAll]; exact List.mem_append.2 (.inl hn)
  | x :: ds, i + 1, d, h, n, hn => by rw [DataW.weightsAll]; exact List.mem_append.2 (.inr (small_all (by simpa using h) n hn))
theorem open_row {t : Ty} (Pd : den t → Prop) {e sl : TypeId} (hu : Tryz.prog.underlying sl = some (.slice e)) (hc : Tryz.prog.cellsOf e = width t) (hb : 1 ≤ Tryz.prog.bytesOf e) (hO : ∀ b, ¬ O b)
    {m : Nat} {cs : List Value} {y : DataW H × List MemPlace} (h : DataW.trod enc Tryz.prog w base spare held m sl cs = some y) (hs : Small sl y.1)
    (hel : ∀ (n : Nat) (c : List Value) (z : DataW H × List MemPlace), n < m → c.length = width t → DataW.trod enc Tryz.prog w base spare held n e c = some z → Small e z.1 → ∃ x : den t, All2 (LeafR w O I) c (leaves t x) ∧ Pd x) :
    ∃ (v : Value) (l : List (den t)), cs = [v] ∧ LeafR w O I v (.row t l) ∧ ∀ x ∈ l, Pd x := by
  rcases DataW.trod_slice hu h with ⟨rfl, _⟩ | ⟨a, len, cap, elems, rest, n, rfl, rfl, rfl, _, hl, _, hlen, hels, _, _⟩
  · exact ⟨_, [], rfl, .row0 t, fun x hx => nomatch hx⟩
  · have hW := width_pos t
    rw [hc] at hels
    have hsz : len ≤ maxSl := by
      have h1 := hs ((((elems.map (·.1)).length + (rest.map (·.1)).length) * Tryz.prog.bytesOf e)) (by simp only [DataW.weights, hu]; exact .head _)
      simp only [List.length_map] at h1
      have : len ≤ (elems.length + rest.length) * Tryz.prog.bytesOf e := by
        rw [hlen]; exact Nat.le_trans (Nat.le_add_right _ _) (Nat.le_mul_of_pos_right _ hb)
      unfold reachBytes at h1
      unfold maxSl
      omega
    obtain ⟨l, hll, hq⟩ := list_of (Q := fun i (x : den t) => ∃ c : List Value, c.length = width t ∧ (All2 (LeafR w O I) c (leaves t x) ∧ Pd x) ∧ ∀ j u, c[j]? = some u → w.cell? (a.add (i * width t + j)) = some u) len fun i hi => by
      have h1 := hels i hi
      obtain ⟨z, hz⟩ : ∃ z, elems[i]? = some z := ⟨_, List.getElem?_eq_getElem (by omega)⟩
      rw [hz] at h1
      obtain ⟨c, hcc, ht⟩ := Option.bind_eq_some_iff.1 h1
      obtain ⟨g1, g2⟩ := cells_spec hcc
      have hsz' : Small e z.1 := fun k hk => hs k (by
        simp only [DataW.weights, hu]
        exact .tail _ (List.mem_append.2 (.inl (small_all (i := i) (by rw [List.getElem?_map, hz]; rfl) k hk))))
      obtain ⟨x, hx⟩ := hel n c z (Nat.lt_succ_self _) g1 ht hsz'
      refine ⟨x, c, g1, hx, fun j u hu' => ?_⟩
      have := g2 j u hu'
      unfold Addr.add at this ⊢
      by_cases hj : j = 0
      · subst hj; simpa using this
      · rw [if_neg hj] at this
        rw [if_neg (by omega)]
        split at this
        · rename_i h0; rw [h0, Nat.zero_add]; exact this
        · simpa [Nat.add_assoc] using this
    refine ⟨_, l, rfl, ?_, fun x hx => by obtain ⟨i, hi, rfl⟩ := List.getElem_of_mem hx; obtain ⟨_, _, k2, _⟩ := hq i l[i] (List.getElem?_eq_getElem hi); exact k2.2⟩
    rcases Nat.eq_zero_or_pos len with h0 | h0
    · have : l = [] := List.eq_nil_of_length_eq_zero (by omega)
      subst this
      subst h0
      exact .rowz a cap t
    · have hcell : ∀ j, j < len * width t → ∃ u, w.cell? (a.add j) = some u ∧ ∀ x, (cellsOf t l)[j]? = some x → LeafR w O I u x := fun j hj => by
        have hd : j / width t < l.length := by rw [hll]; exact Nat.div_lt_of_lt_mul (by rw [Nat.mul_comm]; exact hj)
        obtain ⟨c, k1, ⟨k2, _⟩, k3⟩ := hq (j / width t) l[j / width t] (List.getElem?_eq_getElem hd)
        have hm : j % width t < c.length := by rw [k1]; exact Nat.mod_lt _ hW
        have h3 := k3 (j % width t) c[j % width t] (List.getElem?_eq_getElem hm)
        have hj' : j / width t * width t + j % width t = j := by rw [Nat.mul_comm]; exact Nat.div_add_mod j (width t)
        rw [hj'] at h3
        refine ⟨_, h3, fun x hx => ?_⟩
        rw [cellsOf_get hd] at hx
        obtain ⟨y', hy', hr⟩ := k2.get' (List.getElem?_eq_getElem hm)
        rw [hx] at hy'; injection hy' with hy'; subst hy'; exact hr
      obtain ⟨b, off, sp⟩ := a
      obtain ⟨u0, hu0, _⟩ := hcell 0 (Nat.mul_pos h0 hW)
      have hsp : sp = none := spot_of hu0
      subst hsp
      have key := LeafR.row (w := w) (O := O) (I := I) b off cap t l ((List.range (len * width t)).map fun j => (w.cell? ⟨b, off + j, none⟩).getD (.bool false)) (fun _ => hO b) (by omega) (by omega) (fun j u hu' => ?_) (by simp only [List.length_map, List.length_range]; rw [cellsOf_length, hll]) (fun j u x hu' hx => ?_)
      · rw [hll] at key; exact key
      · simp only [List.getElem?_map, Option.map_eq_some_iff] at hu'
        obtain ⟨k, hk, rfl⟩ := hu'
        obtain ⟨hlt, e'⟩ := List.getElem?_eq_some_iff.1 hk
        simp at e' hlt
        subst e'
        obtain ⟨u1, hu1, _⟩ := hcell j hlt
        have e2 : (⟨b, off, none⟩ : Addr).add j = ⟨b, off + j, none⟩ := by unfold Addr.add; split <;> simp_all
        rw [e2] at hu1
        rw [hu1]; rfl
      · simp only [List.getElem?_map, Option.map_eq_some_iff] at hu'
        obtain ⟨k, hk, rfl⟩ := hu'
        obtain ⟨hlt, e'⟩ := List.getElem?_eq_some_iff.1 hk
        simp at e' hlt
        subst e'
        obtain ⟨u1, hu1, hr⟩ := hcell j hlt
        have e2 : (⟨b, off, none⟩ : Addr).add j = ⟨b, off + j, none⟩ := by unfold Addr.add; split <;> simp_all
        rw [e2] at hu1
        rw [hu1]
        exact hr x hx
/-- A field's reading. -/
theorem field_of {t : TypeId} {fs : Array Field} (hu : Tryz.prog.underlying t = some (.struct fs)) {m : Nat} {cs : List Value} {y : DataW H × List MemPlace} (h : DataW.trod enc Tryz.prog w base spare held m t cs = some y) (hs : Small t y.1) (i : Nat) (f : Field) (hf : fs[i]? = some f) :
    ∃ (n : Nat) (z : DataW H × List MemPlace), n < m ∧ DataW.trod enc Tryz.prog w base spare held n f.type ((cs.drop f.offset).take (Tryz.prog.cellsOf f.type)) = some z ∧ Small f.type z.1 := by
  obtain ⟨xs, n, rfl, rfl, _, hlen, hff⟩ := DataW.trod_struct hu h
  have hlt : i < xs.length := by rw [hlen]; exact (Array.getElem?_eq_some_iff.1 hf).1
  refine ⟨n, xs[i], Nat.lt_succ_self _, by rw [hff i f hf, List.getElem?_eq_getElem hlt], fun k hk => hs k ?_⟩
  simp only [DataW.weights, hu]
  refine DataW.weights_mem_each (j := i) (t := f.type) (d := xs[i].1) ?_ ?_ k hk
  · rw [List.getElem?_map, Array.getElem?_toList, hf]; rfl
  · rw [List.getElem?_map, List.getElem?_eq_getElem hlt]; rfl
theorem struct_len {t : TypeId} {fs : Array Field} (hu : Tryz.prog.underlying t = some (.struct fs)) {m : Nat} {cs : List Value} {y : DataW H × List MemPlace} (h : DataW.trod enc Tryz.prog w base spare held m t cs = some y) : cs.length = Tryz.prog.cellsOf t := by
  obtain ⟨_, _, _, _, hl, _, _⟩ := DataW.trod_struct hu h
  exact hl
theorem wf_inI {n : Int} (h : (Lit.int .i64 n).wf = true) : inI n := by
  have h : (decide (IntKind.i64.min ≤ n) && decide (n ≤ IntKind.i64.max)) = true := h
  rw [Bool.and_eq_true, decide_eq_true_eq, decide_eq_true_eq, show IntKind.i64.min = -9223372036854775808 by decide, show IntKind.i64.max = 9223372036854775807 by decide] at h
  exact ⟨h.1, by omega⟩
theorem open_int1 {m : Nat} {cs : List Value} {y : DataW H × List MemPlace} (h : DataW.trod enc Tryz.prog w base spare held m 3 cs = some y) : ∃ n, cs = [.int .i64 n] ∧ inI n := by
  obtain ⟨n, e, _, hw⟩ := DataW.trod_int Tryz.underlying3 h
  exact ⟨n, e, wf_inI hw⟩
theorem open_str1 {m : Nat} {cs : List Value} {y : DataW H × List MemPlace} (h : DataW.trod enc Tryz.prog w base spare held m 9 cs = some y) (hs : Small 9 y.1) : ∃ s : ByteArray, cs = [.string s] ∧ s.size ≤ maxSl := by
  obtain ⟨s, e, rfl, _⟩ := DataW.trod_string Tryz.underlying9 h
  refine ⟨s, e, ?_⟩
  have := hs s.data.toList.length (by simp [DataW.weights])
  rw [Array.length_toList] at this
  have h2 : s.size ≤ reachBytes := this
  unfold reachBytes at h2
  unfold maxSl
  omega
theorem cells_int : Tryz.prog.cellsOf 3 = 1 := by kernel_rfl
theorem cells_str : Tryz.prog.cellsOf 9 = 1 := by kernel_rfl
theorem cells_ints : Tryz.prog.cellsOf 103 = 1 := by kernel_rfl
theorem cells_ats : Tryz.prog.cellsOf 40 = 1 := by kernel_rfl
theorem cells_nds : Tryz.prog.cellsOf 22 = 1 := by kernel_rfl
theorem cells_at : Tryz.prog.cellsOf 62 = 2 := by kernel_rfl
theorem cells_nd : Tryz.prog.cellsOf 42 = 6 := by kernel_rfl
theorem open_ints (hO : ∀ b, ¬ O b) {m : Nat} {cs : List Value} {y : DataW H × List MemPlace} (h : DataW.trod enc Tryz.prog w base spare held m 103 cs = some y) (hs : Small 103 y.1) : ∃ (v : Value) (l : List Int), cs = [v] ∧ LeafR w O I v (.row .int l) ∧ ∀ n ∈ l, inI n :=
  open_row (t := .int) inI Tryz.underlying103 cells_int (Nat.le_of_ble_eq_true (by kernel_rfl)) hO h hs fun n c z _ _ hz _ => by
    obtain ⟨k, rfl, hk⟩ := open_int1 hz
    exact ⟨k, .cons (.int _ _) .nil, hk⟩
set_option maxRecDepth 100000
theorem open_ats (hO : ∀ b, ¬ O b) {m : Nat} {cs : List Value} {y : DataW H × List MemPlace} (h : DataW.trod enc Tryz.prog w base spare held m 40 cs = some y) (hs : Small 40 y.1) : ∃ (v : Value) (l : List At), cs = [v] ∧ LeafR w O I v (.row .attr l) ∧ ∀ x ∈ l, True :=
  open_row (t := .attr) (fun _ => True) Tryz.underlying40 cells_at (Nat.le_of_ble_eq_true (by kernel_rfl)) hO h hs fun n c z _ hl hz hsz => by
    obtain ⟨_, z0, _, g0, s0⟩ := field_of Tryz.underlying62 hz hsz 0 _ rfl
    obtain ⟨_, z1, _, g1, s1⟩ := field_of Tryz.underlying62 hz hsz 1 _ rfl
    obtain ⟨x0, e0, b0⟩ := open_str1 g0 s0
    obtain ⟨x1, e1, b1⟩ := open_str1 g1 s1
    match c, hl with
    | [c0, c1], _ =>
      simp [cells_str] at e0 e1
      subst e0 e1
      exact ⟨⟨x0, x1⟩, .cons (.str _ b0) (.cons (.str _ b1) .nil), trivial⟩
theorem open_nd (hO : ∀ b, ¬ O b) : ∀ (m : Nat) {cs : List Value} {y : DataW H × List MemPlace}, DataW.trod enc Tryz.prog w base spare held m 42 cs = some y → Small 42 y.1 → ∃ x : Nd, All2 (LeafR w O I) cs (nodeL x) ∧ rngNd x := by
  intro m
  induction m using Nat.strongRecOn with
  | ind m ih =>
    intro cs y h hs
    obtain ⟨_, z0, _, g0, s0⟩ := field_of Tryz.underlying42 h hs 0 _ rfl
    obtain ⟨_, z1, _, g1, s1⟩ := field_of Tryz.underlying42 h hs 1 _ rfl
    obtain ⟨_, z2, _, g2, s2⟩ := field_of Tryz.underlying42 h hs 2 _ rfl
    obtain ⟨_, z3, _, g3, s3⟩ := field_of Tryz.underlying42 h hs 3 _ rfl
    obtain ⟨_, z4, _, g4, s4⟩ := field_of Tryz.underlying42 h hs 4 _ rfl
    obtain ⟨n5, z5, l5, g5, s5⟩ := field_of Tryz.underlying42 h hs 5 _ rfl
    have hlen := struct_len Tryz.underlying42 h
    rw [cells_nd] at hlen
    obtain ⟨x0, e0, i0⟩ := open_int1 g0
    obtain ⟨x1, e1, i1⟩ := open_int1 g1
    obtain ⟨x2, e2, b2⟩ := open_str1 g2 s2
    obtain ⟨v3, x3, e3, r3, _⟩ := open_ats (I := I) hO g3 s3
    obtain ⟨x4, e4, b4⟩ := open_str1 g4 s4
    obtain ⟨v5, x5, e5, r5, i5⟩ := open_row (t := .node) (I := I) rngNd Tryz.underlying22 cells_nd (Nat.le_of_ble_eq_true (by kernel_rfl)) hO g5 s5 fun n c z hn _ hz hsz => ih n (by omega) hz hsz
    match cs, hlen with
    | [c0, c1, c2, c3, c4, c5], _ =>
      simp [cells_int, cells_str, cells_ats, cells_nds] at e0 e1 e2 e3 e4 e5
      subst e0 e1 e2 e3 e4 e5
      exact ⟨⟨x0, x1, x2, x3, x4, x5⟩, .cons (.int _ _) (.cons (.int _ _) (.cons (.str _ b2) (.cons r3 (.cons (.str _ b4) (.cons r5 .nil))))), by rw [rngNd]; exact ⟨i0, i1, rngNds_of i5⟩⟩
theorem open_nds (hO : ∀ b, ¬ O b) {m : Nat} {cs : List Value} {y : DataW H × List MemPlace} (h : DataW.trod enc Tryz.prog w base spare held m 22 cs = some y) (hs : Small 22 y.1) : ∃ (v : Value) (l : List Nd), cs = [v] ∧ LeafR w O I v (.row .node l) ∧ rngNds l := by
  obtain ⟨v, l, e, r, i⟩ := open_row (t := .node) (I := I) rngNd Tryz.underlying22 cells_nd (Nat.le_of_ble_eq_true (by kernel_rfl)) hO h hs fun n c z _ _ hz hsz => open_nd hO n hz hsz
  exact ⟨v, l, e, r, rngNds_of i⟩
end
/-- A slice that came in. -/
theorem opened {H : Type} {enc : TypeId × Value → H} {w : World} {spare : Nat → Bool} {held : Bool} {t : TypeId} {v : Value} {d : DataW H} {p : List MemPlace} (h : DataW.Trod enc Tryz.prog w 0 spare held t v d p) : ∃ m, DataW.trod enc Tryz.prog w 0 spare held m t v.cells.toList = some (d, p) := h
end Go.Proofs.YtpbpabadbipfdaaGreatDoor.AX
end
section
namespace Go.Proofs.YtpbpabadbipfdaaGreatDoor.AX
open Go Go.ChangeShapes Go.WideShapes Go.ChangeAt Go.RowKit
def encTw (a : Tw) : List Value := [.int .i64 a.a, .int .i64 a.b]
theorem take_at {α : Type} {cs e : List α} {a n i : Nat} {u : α} (h : (cs.drop a).take n = e) (hu : e[i]? = some u) : cs[a + i]? = some u := by
  subst h
  rw [List.getElem?_take] at hu
  split at hu
  · rwa [List.getElem?_drop] at hu
  · cases hu
/-- The cells of an array that reads as a list of records. -/
theorem cells_of_array {α H : Type} {enc0 : TypeId × Value → H} {P : Program} {w : World} {base : Nat} {spare : Nat → Bool} {held : Bool} {fuel : Nat} {t e : TypeId} {n sz : Nat} {cs : List Value} {p : List MemPlace} (ht : P.underlying t = some (.array n e)) (hsz : P.cellsOf e = sz)
    (encd : α → DataW H) (enc : α → List Value) (l : List α) (hl : l.length = n)
    (hone : ∀ m a c q, DataW.trod enc0 P w base spare held m e c = some (encd a, q) → c = enc a)
    (h : DataW.trod enc0 P w base spare held fuel t cs = some (.agg (l.map encd), p)) : ∀ j a, l[j]? = some a → ∀ i u, (enc a)[i]? = some u → cs[j * sz + i]? = some u := by
  obtain ⟨xs, m, _, hx, _, hxl, hel⟩ := DataW.trod_array ht h
  simp only [Prod.mk.injEq, DataW.agg.injEq] at hx
  intro j a ha i u hu
  have hj : j < n := by rw [← hl]; exact (List.getElem?_eq_some_iff.1 ha).1
  have h1 := hel j hj
  rw [hsz] at h1
  have h2 : (xs.map (·.1))[j]? = (l.map encd)[j]? := by rw [hx.1]
  rw [List.getElem?_map, List.getElem?_map, ha] at h2
  obtain ⟨⟨d, q⟩, hq, hd⟩ := Option.map_eq_some_iff.1 h2
  simp only at hd
  subst hd
  rw [hq] at h1
  exact take_at (hone _ _ _ _ h1) hu
theorem rec2 {H : Type} {enc0 : TypeId × Value → H} {w : World} {base : Nat} {spare : Nat → Bool} {held : Bool} {T : TypeId} {f0 f1 : Field} (hT : Tryz.prog.underlying T = some (.struct #[f0, f1])) (h0 : f0.type = 3 ∧ f0.offset = 0) (h1 : f1.type = 3 ∧ f1.offset = 1) (hc : Tryz.prog.cellsOf T = 2)
    (m : Nat) (a : Tw) (c : List Value) (q : List MemPlace) (h : DataW.trod enc0 Tryz.prog w base spare held m T c = some (.agg [.lit (.int .i64 a.1), .lit (.int .i64 a.2)], q)) : c = encTw a := by
  obtain ⟨y0, y1, n, hx, hl, g0, g1⟩ := trod_struct2 hT h
  have c3 : Tryz.prog.cellsOf 3 = 1 := by kernel_rfl
  rw [h0.1, h0.2, c3] at g0
  rw [h1.1, h1.2, c3] at g1
  rw [hc] at hl
  obtain ⟨x0, e0, rfl, _⟩ := DataW.trod_int Tryz.underlying3 g0
  obtain ⟨x1, e1, rfl, _⟩ := DataW.trod_int Tryz.underlying3 g1
  simp only [Prod.mk.injEq, DataW.agg.injEq, List.cons.injEq, DataW.lit.injEq, Lit.int.injEq, true_and, and_true] at hx
  match c, hl with
  | [c0, c1], _ =>
    simp at e0 e1
    subst e0 e1
    obtain ⟨⟨r0, r1⟩, _⟩ := hx
    simp [encTw, r0, r1]
/-- One variable out of the list. -/
theorem laid_mem {P : Program} {w : World} : ∀ {l : List (String × DataW Unit)} {ps : List MemPlace}, DataW.LaidVars P w l ps → ∀ n d, (n, d) ∈ l →
    ∃ g t cs fuel p, P.globalNamed n = some g ∧ (P.globals[g]?).map (·.type) = some t ∧ w.var? P n = some cs ∧ DataW.trod (fun _ => ()) P w 0 (fun _ => true) false fuel t cs.toList = some (d, p)
  | [], _, _, _, _, h => by simp at h
  | (n0, d0) :: r, ps, ⟨g, t, cs, fuel, p, q, h1, h2, h3, h4, hr, _⟩, n, d, h => by
    rcases List.mem_cons.1 h with h | h
    · obtain ⟨rfl, rfl⟩ := Prod.mk.inj h
      exact ⟨g, t, cs, fuel, p, h1, h2, h3, h4⟩
    · exact laid_mem hr n d h
theorem var_cells {W : World} {n : String} {g : Nat} {t : TypeId} {d : DataW Unit} {l : List (String × DataW Unit)} (hl : laidMet Tryz.prog l W) (hm : (n, d) ∈ l) (hg : Tryz.prog.globalNamed n = some g) (ht : (Tryz.prog.globals[g]?).map (·.type) = some t) :
    ∃ (cs : Array Value) (fuel : Nat) (p : List MemPlace), DataW.trod (fun _ => ()) Tryz.prog W 0 (fun _ => true) false fuel t cs.toList = some (d, p) ∧ ∀ i : Nat, W.cell? ⟨g, i, none⟩ = cs.toList[i]? := by
  obtain ⟨ps, hv, _, _⟩ := hl
  obtain ⟨g', t', cs, fuel, p, h1, h2, h3, h4⟩ := laid_mem hv n d hm
  obtain rfl := Option.some.inj (hg.symm.trans h1)
  obtain rfl := Option.some.inj (ht.symm.trans h2)
  exact ⟨cs, fuel, p, h4, fun i => by rw [World.var?_cell hg h3 i]; simp⟩
theorem maxlen_of {W : World} (h : W.ShapedOpen Tryz.prog) : ∃ m, W.cell? ⟨1, 0, none⟩ = some (.int .i64 m) :=
  cell_of_shapedOpen_int (t := 3) (zero := #[.int .i64 0]) h (of_decide_eq_true (by kernel_rfl)) (by kernel_rfl) rfl (by kernel_rfl) (by kernel_rfl) Tryz.underlying3
def uRows : List Tw := [⟨0, 0⟩, ⟨0, 0⟩, ⟨192, 128⟩, ⟨224, 2048⟩, ⟨240, 65536⟩]
theorem glob_of {W : World} {l : List (String × DataW Unit)} {O : Nat → Prop} (hO : ∀ b, ¬ O b) (hl : laidMet Tryz.prog l W) (m0 : ("recto/utf.rows", Rows.laid_recto_utf_rows) ∈ l) (hs : W.ShapedOpen Tryz.prog) : GOK cx0.tid W O := by
  have c58 : Tryz.prog.cellsOf 118 = 2 := by kernel_rfl
  obtain ⟨cs, fuel, p, h, hc⟩ := var_cells hl m0 (show Tryz.prog.globalNamed "recto/utf.rows" = some 0 by kernel_rfl) (show (Tryz.prog.globals[0]?).map (·.type) = some 119 by kernel_rfl)
  have r0 : ∀ j a, uRows[j]? = some a → ∀ i u, (encTw a)[i]? = some u → W.cell? ⟨0, j * 2 + i, none⟩ = some u := fun j a ha i u hu => (hc _).trans (cells_of_array Tryz.underlying119 c58 (fun a : Tw => .agg [.lit (.int .i64 a.1), .lit (.int .i64 a.2)]) encTw uRows rfl (fun m a c q => rec2 Tryz.underlying118 ⟨rfl, rfl⟩ ⟨rfl, rfl⟩ c58 m a c q) h j a ha i u hu)
  refine ⟨fun q hq => ?_, fun g hg => ?_⟩
  · have hq : q ∈ [Glo.mk 0 .two uRows] := hq
    rw [List.mem_singleton] at hq
    subst hq
    refine ⟨by kernel_rfl, hO _, World.block_lt_of_cell? W _ (r0 0 _ rfl 0 _ rfl), fun j a ha => ?_⟩
    have hj : j < (cellsOf .two uRows).length := (List.getElem?_eq_some_iff.1 ha).1
    rw [cellsOf_length] at hj
    have hd : j / width .two < uRows.length := Nat.div_lt_of_lt_mul (by rw [Nat.mul_comm]; exact hj)
    rw [cellsOf_get hd] at ha
    have e : ∀ (x : Tw) (i : Nat) (a : AV), (leaves .two x)[i]? = some a → (encTw x)[i]? = some (flatV a) := fun x i a h => by
      match i, h with
      | 0, h => cases h; rfl
      | 1, h => cases h; rfl
    have := r0 (j / 2) uRows[j / width .two] (List.getElem?_eq_getElem hd) (j % 2) (flatV a) (e _ _ _ ha)
    rw [show j / 2 * 2 + j % 2 = j by omega] at this
    exact this
  · have hg : g ∈ [1] := hg
    rw [List.mem_singleton] at hg
    subst hg
    exact ⟨hO _, maxlen_of hs⟩
end Go.Proofs.YtpbpabadbipfdaaGreatDoor.AX
end
