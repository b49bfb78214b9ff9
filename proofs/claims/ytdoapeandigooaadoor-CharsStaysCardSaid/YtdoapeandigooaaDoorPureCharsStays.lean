/- CharsStays, plainly: what is ready stays so. -/
import Derived.Test.YtdoapeandigooaaDoorCPureChars
import Derived.Test.YtdoapeandigooaaDoorC10
namespace Go.Proofs.YtdoapeandigooaaDoor.C
open Go.RowKit Go.Proofs.YtdoapeandigooaaDoorW.PrintWords Go.Proofs.YtdoapeandigooaaDoorW.PrintLast

theorem stays_l {x : ByteArray} {l : List Int} (hl : Byt l) (hx : bl x = cleanL l) (hno : ∀ y ∈ bl x, y ≠ 0 ∧ y ≠ 13) (hz : x.size ≤ 1000000) : ∀ d i : Nat, d + i = x.size → Ev (fun k => rectolaw03_CharsStays.l0 k x (i : Int)) true
  | 0, i, h => by
    refine Ev.step (fun k => by rw [rectolaw03_CharsStays.l0]) (Ev.ite_neg (by omega) ?_)
    have hr := right_ev x
    rw [hx, right_clean hl] at hr
    by_cases big : x.size > 4000
    · exact Ev.bind (ready_long big) (Ev.bind hr (Ev.ite_pos rfl (Ev.ite_neg (by decide) (Ev.ite_pos rfl (Ev.ite_pos (by omega) (Ev.bind ends_ev (Ev.now _)))))))
    · have e : strOfNums (cleanL (rdy (bl x))) = x := bl_inj (by rw [rdy_id _ hno, bl_clean, hx, clean_clean hl])
      have hy := ready_ev (s := x) (by omega)
      rw [e] at hy
      exact Ev.bind hy (Ev.bind hr (Ev.ite_pos rfl (Ev.ite_pos rfl (Ev.ite_pos rfl (Ev.bind ends_ev (Ev.now _))))))
  | d + 1, i, h => by
    have hi : i < x.size := by omega
    have hm : bt x (i : Int) ∈ bl x := by
      have : bt x (i : Int) ∈ (bl x).drop i := by rw [bl_at hi]; exact List.mem_cons_self ..
      exact List.mem_of_mem_drop this
    obtain ⟨h0, h13⟩ := hno _ hm
    have e1 : wrap64 ((i : Int) + 1) = ((i + 1 : Nat) : Int) := by rw [w64 (by omega) (by omega)]; rfl
    refine Ev.step (fun k => by rw [rectolaw03_CharsStays.l0]) ?_
    rw [e1]
    exact Ev.ite_pos (by omega) (Ev.ite_pos (by omega) (Ev.ite_neg h0 (Ev.ite_neg h13 (stays_l hl hx hno hz d (i + 1) (by omega)))))
theorem CharsStays : rectolaw03_CharsStays.Pure := fun s hs => Ev.rounds (by
  unfold rectolaw03_CharsStays.f
  by_cases big : s.size > 4000
  · exact Ev.bind (ready_long big) (Ev.ite_neg (by decide) (Ev.ite_pos ((nil_iff _).2 rfl) (Ev.bind ends_ev (Ev.now _))))
  · have hb := rdy_byt _ (byt_bl s)
    have hx : bl (strOfNums (cleanL (rdy (bl s)))) = cleanL (rdy (bl s)) := bl_strOfNums (byt_clean hb)
    have h1 := rdy_len (bl s)
    have h2 := clean_length _ hb
    rw [bl_length] at h1
    refine Ev.bind (ready_ev (by omega)) (Ev.ite_pos rfl (stays_l hb hx ?_ ?_ _ 0 rfl))
    · rw [hx]; exact clean_no _ hb (rdy_no _)
    · rw [size_nums]; omega)
end Go.Proofs.YtdoapeandigooaaDoor.C
