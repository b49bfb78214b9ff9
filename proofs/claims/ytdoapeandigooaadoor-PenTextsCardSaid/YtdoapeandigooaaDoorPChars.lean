/- chars.Blank (a range over a string) and chars.Lower (a copy of bytes, written in place), walked by hand: what they answer. -/
import Derived.Test.YtdoapeandigooaaDoorPBase
import Derived.Lib.OthersKept
import Derived.Laws.IdiomStrings
import Derived.Laws.RangeAny
import Derived.Test.YtdoapeandigooaaDoorP7
namespace Go.Proofs.YtdoapeandigooaaDoor.P
open Go.RowKit Go.Proofs.YtdoapeandigooaaDoorW.PrintWords Go.Proofs.YtdoapeandigooaaDoorW.PrintLast

/-- Is a byte a space? -/
def sp8 (b : UInt8) : Bool := b == 9 || b == 10 || b == 12 || b == 32
theorem sp_iff {b : UInt8} : sp8 b = true ↔ b.toNat = 9 ∨ b.toNat = 10 ∨ b.toNat = 12 ∨ b.toNat = 32 := by
  unfold sp8
  simp only [Bool.or_eq_true, beq_iff_eq, ← UInt8.toNat_inj]
  have : (9 : UInt8).toNat = 9 ∧ (10 : UInt8).toNat = 10 ∧ (12 : UInt8).toNat = 12 ∧ (32 : UInt8).toNat = 32 := by decide
  omega
theorem space_all : ∀ n : Fin 256, chars_Space.f (n.val : Int) = some (sp8 (UInt8.ofNat n.val)) := by decide +kernel
theorem space_8 (b : UInt8) : chars_Space.f (b.toNat : Int) = some (sp8 b) := by
  have := space_all ⟨b.toNat, UInt8.toNat_lt b⟩
  rwa [UInt8.ofNat_toNat] at this
/-- chars.Blank: whether all bytes are spaces. -/
def blank8 (s : ByteArray) : Bool := s.data.toList.all sp8
def chars_Blank.f (s : ByteArray) : Option Bool := some (blank8 s)
theorem blank_no {s : ByteArray} {j : Nat} (hj : j < s.size) (h : sp8 s[j] = false) : blank8 s = false := by
  unfold blank8
  rw [List.all_eq_false]
  exact ⟨s[j], List.mem_iff_getElem.2 ⟨j, by simpa using hj, by simp; rfl⟩, by rw [h]; decide⟩
theorem blank_yes {s : ByteArray} (h : ∀ j (hj : j < s.size), sp8 s[j] = true) : blank8 s = true := by
  unfold blank8
  rw [List.all_eq_true]
  intro b hb
  obtain ⟨j, hj, rfl⟩ := List.mem_iff_getElem.1 hb
  exact h j (by simpa using hj)
set_option maxHeartbeats 4000000 in
set_option maxRecDepth 1000000 in
theorem chars_Blank.calls (s : ByteArray) (r : Bool) (w : World) (h : chars_Blank.f s = some r) (HG : Aside0 (Laid w)) :
    Calls Tryd.prog 21 #[.string s] w fun e w' => e = .returned (.bool r) ∧ Below w.heap.size w w' := by
  have _ := HG
  simp only [chars_Blank.f, Option.some.injEq] at h
  subst h
  go_enter Tryd.func21, Tryd.ntmps21
  go_wp2
  go_loopw [] (fun wr => ∃ pos : Nat, wr.heap[w.heap.size]? = some (.stringIter s pos) ∧ Aside0 (Below w.heap.size w wr) ∧ ∀ j (hj : j < s.size), j < pos → sp8 s[j] = true) (fun wr => s.size - wr.iterPos w.heap.size)
  case atStart =>
    refine ⟨0, ?_, ⟨(Below.refl _ w).alloc (Nat.le_refl _) _⟩, fun j hj h0 => absurd h0 (by omega)⟩
    have := World.iter_heap w s 0
    simpa using this
  case round =>
    obtain ⟨pos, hit, HB, hall⟩ := hrel
    by_cases hp : pos < s.size
    · by_cases ha : (s[pos]'hp).toNat < 128
      · have hnx : ∀ ty, (Instr.next (.pointer (some ⟨w.heap.size, 0, none⟩)) true ty).run Tryd.prog wr = _ := fun ty => Lib.run_next_ascii_at wr w.heap.size s pos ty hit hp ha
        have m256 : ((s[pos]'hp).toNat : Int) % 256 = ((s[pos]'hp).toNat : Int) := by omega
        by_cases q : sp8 (s[pos]'hp) = true
        · have q' := sp_iff.1 q
          go_wp2
          all_goals first
            | (refine ⟨⟨pos + 1, Lib.iterAt_heap _ _ _ _ _ hit, ⟨Lib.below_iterAt HB.out (Nat.le_refl _) s _⟩, fun j hj hj1 => ?_⟩, ?_⟩
               · rcases Nat.lt_or_ge j pos with z | z
                 · exact hall j hj z
                 · obtain rfl : j = pos := by omega
                   exact q
               · simp only [World.iterPos, Lib.iterAt_heap _ _ _ _ _ hit, hit]; omega)
            | (exfalso; omega)
            | (rename_i z; exfalso; simp at z; omega)
        · have q' : ¬ ((s[pos]'hp).toNat = 9 ∨ (s[pos]'hp).toNat = 10 ∨ (s[pos]'hp).toNat = 12 ∨ (s[pos]'hp).toNat = 32) := fun z => q (sp_iff.2 z)
          go_wp2
          all_goals first
            | (go_ret; exact ⟨congrArg (fun b => Ending.returned (Value.bool b)) (blank_no hp (Bool.eq_false_iff.2 q)).symm, Lib.below_iterAt HB.out (Nat.le_refl _) s _⟩)
            | (exfalso; omega)
            | (rename_i z; exfalso; simp at z; omega)
      · have hnx : ∀ ty, (Instr.next (.pointer (some ⟨w.heap.size, 0, none⟩)) true ty).run Tryd.prog wr = _ := fun ty => Lib.run_next_any_at wr w.heap.size s pos ty hit hp
        have hh := (decode_high s pos hp (by omega)).1
        have hs : sp8 (s[pos]'hp) = false := by
          unfold sp8
          have : ∀ c : UInt8, c.toNat < 128 → (s[pos]'hp == c) = false := fun c hc => by
            rw [beq_eq_false_iff_ne]
            intro z
            rw [z] at ha
            exact ha hc
          rw [this 9 (by decide), this 10 (by decide), this 12 (by decide), this 32 (by decide)]; rfl
        go_wp2
        all_goals first
          | (exfalso; omega)
          | (go_ret; exact ⟨congrArg (fun b => Ending.returned (Value.bool b)) (blank_no hp hs).symm, Lib.below_iterAt HB.out (Nat.le_refl _) s _⟩)
    · have hnx : ∀ ty, (Instr.next (.pointer (some ⟨w.heap.size, 0, none⟩)) true ty).run Tryd.prog wr = _ := fun ty => Lib.run_next_end_at wr w.heap.size s pos ty hit hp
      go_wp2
      go_ret
      exact ⟨congrArg (fun b => Ending.returned (Value.bool b)) (blank_yes fun j hj => hall j hj (by omega)).symm, HB.out⟩
/-- chars.Lower: capital letters made small. -/
def low8 (b : UInt8) : UInt8 := if 65 ≤ b.toNat ∧ b.toNat ≤ 90 then b + 32 else b
def lower8 (s : ByteArray) : List UInt8 := s.data.toList.map low8
def chars_Lower.f (s : ByteArray) : Option ByteArray := if s.size ≤ 140737488355328 then some ⟨(lower8 s).toArray⟩ else none
theorem low8_nat (b : UInt8) : ((low8 b).toNat : Int) = if 65 ≤ b.toNat ∧ b.toNat ≤ 90 then (b.toNat : Int) + 32 else (b.toNat : Int) := by
  unfold low8
  split
  · rw [UInt8.toNat_add]
    have : (32 : UInt8).toNat = 32 := by decide
    omega
  · rfl
/-- The byte at a place while the bytes ahead of place i have been made small. -/
def lowAt (s : ByteArray) (i j : Nat) : UInt8 := if j < i then low8 (s.data.toList.getD j 0) else s.data.toList.getD j 0
set_option maxHeartbeats 4000000 in
set_option maxRecDepth 1000000 in
theorem chars_Lower.calls (s : ByteArray) (r : ByteArray) (w : World) (h : chars_Lower.f s = some r) (HG : Aside0 (Laid w)) :
    Calls Tryd.prog 14 #[.string s] w fun e w' => e = .returned (.string r) ∧ Below w.heap.size w w' := by
  have _ := HG
  unfold chars_Lower.f at h
  by_cases hs : s.size ≤ 140737488355328
  case neg => rw [if_neg hs] at h; cases h
  rw [if_pos hs] at h
  obtain rfl := Option.some.inj h
  clear h
  have hcv := Lib.run_convert_string_bytes (P := Tryd.prog) w 9 44 5 s Tryd.underlying9 Tryd.underlying44 Tryd.underlying5
  go_enter Tryd.func14, Tryd.ntmps14
  go_wp2
  go_loopw [9] (fun v9 wr => ∃ i : Nat, v9 = .int .i64 (i : Int) ∧ i ≤ s.size ∧ Aside0 (Below w.heap.size w wr) ∧ Aside0 (∀ j, j < s.size → wr.cell? ⟨w.heap.size, j, none⟩ = some (.int .u8 ((lowAt s i j).toNat : Int))) ∧ Aside0 (∀ j, j < s.size → wr.frozen? ⟨w.heap.size, j, none⟩ = false)) (fun v9 _ => s.size - (RowKit.intOf v9).toNat)
  case atStart =>
    refine ⟨0, rfl, Nat.zero_le _, ⟨below_bw (Below.refl _ w)⟩, ⟨fun j hj => ?_⟩, ⟨fun j hj => ?_⟩⟩
    · rw [Lib.bytesWorld_cell w 5 s j hj]; rfl
    · unfold World.frozen?
      simp only [Lib.bytesWorld_at_new]
      have : s.size ≤ (Lib.bytesCells w 5 s).size := by simp [Lib.bytesCells]
      simp; omega
  case round =>
    obtain ⟨i, rfl, hi, HB, HC, HF⟩ := hrel
    by_cases hlt : i < s.size
    · have hc := HC.out i hlt
      have hf := HF.out i hlt
      have hl : lowAt s i i = s.data.toList.getD i 0 := if_neg (by omega)
      obtain ⟨b, hb⟩ : ∃ b, b = s.data.toList.getD i 0 := ⟨_, rfl⟩
      rw [hl, ← hb] at hc
      have hr := UInt8.toNat_lt b
      have lo := Aside0.mk (low8_nat b)
      have ne : Aside0 (∀ j, j ≠ i → lowAt s (i + 1) j = lowAt s i j) := ⟨fun j hj => by
        unfold lowAt
        by_cases z : j < i
        · rw [if_pos z, if_pos (by omega)]
        · rw [if_neg z, if_neg (by omega)]⟩
      have at_ : Aside0 (lowAt s (i + 1) i = low8 b) := ⟨by unfold lowAt; rw [if_pos (by omega), hb]⟩
      clear hb hl
      have ms : Aside0 (s.size - (RowKit.intOf (.int .i64 ((i : Int) + 1))).toNat < s.size - (RowKit.intOf (.int .i64 (i : Int))).toNat) := ⟨by
        simp only [RowKit.intOf]; omega⟩
      have hi1 : ((i : Int) < (s.size : Int)) := by omega
      go_wp2
      all_goals first
        | (refine ⟨⟨i + 1, rfl, by omega, ⟨Below.setCell HB.out (Nat.le_refl _) _⟩, ⟨fun j hj => ?_⟩, ⟨fun j hj => by rw [World.frozen?_setCell]; exact HF.out j hj⟩⟩, ms.out⟩
           by_cases q : j = i
           · subst q
             rw [World.cell?_setCell_same _ _ _ hc, at_.out, lo.out, if_pos (by omega)]
           · rw [World.cell?_setCell_other _ _ _ _ (by intro z; injection z with _ z; exact q z.symm), HC.out j hj, ne.out j q])
        | (refine ⟨⟨i + 1, rfl, by omega, HB, ⟨fun j hj => ?_⟩, HF⟩, ms.out⟩
           by_cases q : j = i
           · subst q
             rw [hc, at_.out, lo.out, if_neg (by omega)]
           · rw [HC.out j hj, ne.out j q])
    · have hi0 : ¬ ((i : Int) < (s.size : Int)) := by omega
      obtain rfl : i = s.size := by omega
      have hback := run_convert_bytes_back (P := Tryd.prog) wr 44 9 5 ⟨w.heap.size, 0, none⟩ (grownCap w s.size 0 5) (lower8 s) Tryd.underlying44 Tryd.underlying5 Tryd.underlying9 (fun j hj => by
        have hj' : j < s.size := by simpa [lower8] using hj
        rw [add_plain, HC.out j hj', show lowAt s s.size j = (lower8 s)[j] from ?_]
        unfold lowAt
        rw [if_pos hj', List.getD_eq_getElem?_getD, List.getElem?_eq_getElem (by simpa using hj')]
        simp [lower8])
      rw [show (lower8 s).length = s.size by simp [lower8]] at hback
      go_wp2
      go_ret
      exact ⟨rfl, HB.out⟩
end Go.Proofs.YtdoapeandigooaaDoor.P
