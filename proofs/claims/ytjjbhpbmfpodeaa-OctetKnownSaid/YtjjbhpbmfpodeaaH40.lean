import Derived.Test.YtjjbhpbmfpodeaaX0
import Derived.Test.YtjjbhpbmfpodeaaX32
import Derived.Test.YtjjbhpbmfpodeaaRF
import Derived.Laws.MakeOwn
import Derived.Deep.WholeRow
import Derived.Deep.RegionHeld
import Derived.Laws.CopyRow
import Derived.Laws.IdiomCopy
import Derived.WalkKit
import Derived.OwnWalkIn
import Derived.TacticsInMore
import Derived.LoopNIn
import Derived.LoopIn
import Derived.Sort.QuietIn
namespace Go.Proofs.Ytjjbhpbmfpodeaa.X
open Go.RowKit Go.Proofs.YtjjbhpbmfpodeaaW.PrintWords Go.Proofs.YtjjbhpbmfpodeaaW.PrintLast Go.Proofs.YtjjbhpbmfpodeaaW.PrintMore
set_option linter.unusedVariables false
set_option linter.unusedSimpArgs false
attribute [local go_sem] Oper.semAt_some

/-- What stands behind bytes that are lent. -/
def spare (n : Nat) : List Int := [160 + (n : Int) % 90, 160 + ((n : Int) + 1) % 90, 160 + ((n : Int) + 2) % 90]

def lentSt (l : List Int) (m : Nat) : List Int := l ++ ((spare l.length).take m ++ List.replicate (3 - m) 0)
theorem lentSt_len (l : List Int) (m : Nat) (h : m ≤ 3) : (lentSt l m).length = l.length + 3 := by
  unfold lentSt; simp [spare]; omega
theorem lentSt_set (l : List Int) (m : Nat) (h : m < 3) : (lentSt l m).set (l.length + m) (160 + ((l.length : Int) + m) % 90) = lentSt l (m + 1) := by
  unfold lentSt
  rw [List.set_append_right _ _ (by omega), show l.length + m - l.length = m by omega]
  congr 1
  rcases m with _ | _ | _ | m
  · simp [spare, List.replicate]
  · simp [spare, List.replicate]
  · simp [spare, List.replicate]
  · omega
theorem nums_set (k : IntKind) (xs : List Int) (i : Nat) (x : Int) : (nums k xs).toArray.setIfInBounds i (.int k x) = (nums k (xs.set i x)).toArray := by
  simp [nums, List.map_set]

set_option maxHeartbeats 4000000 in
set_option maxRecDepth 100000 in
theorem ostiarykit_LentBytes.in_ (n : Nat) (hn : 1 ≤ n) (A0 : Option Addr) (c0 : Nat) (l0 : List Int) (w : World) (hr0 : Kd.C (Kd.int .u8) w A0 l0.length l0) (hl : l0.length ≤ 100000000000) :
    CallsIn Fence.wide n Try.prog 40 #[.slice A0 l0.length c0] w fun e w' => ∃ g, e = .returned (.slice (some ⟨g, 0, none⟩) l0.length (l0.length + 3)) ∧ w.heap.size ≤ g ∧
      w'.heap[g]? = some (.cells (Go.Proofs.YtjjbhpbmfpodeaaW.PrintWords.nums .u8 (l0 ++ spare l0.length)).toArray 5 (0, 0)) ∧ Below w.heap.size w w' := by
  obtain ⟨i0, hi, hz0, hz1, hz2⟩ := info_parts info5
  have hw3 : IntKind.i64.wrap ((l0.length : Int) + 3) = ((l0.length + 3 : Nat) : Int) := by rw [IntWalk.i64_in _ (by omega)]; omega
  have hmade : madeCells #[.int .u8 0] (l0.length + 3) = Array.replicate (l0.length + 3) (Value.int .u8 0) := by
    apply Array.toList_inj.1; rw [toList_madeCells_one, Array.toList_replicate]
  have hmk : ∀ W : World, (Instr.makeSlice 22 (.int .i64 ((l0.length : Int) + 3)) (.int .i64 ((l0.length : Int) + 3))).run Try.prog W = .ok (.slice (some ⟨W.heap.size, 0, none⟩) (l0.length + 3) (l0.length + 3)) (W.alloc (.cells (Array.replicate (l0.length + 3) (Value.int .u8 0)) 5)) := fun W => by
    have := run_make (P := Try.prog) W 22 5 i0 (.int .u8 0) Try.underlying22 hi hz0 .i64 .i64 ((l0.length : Int) + 3) ((l0.length : Int) + 3) (by omega) (Int.le_refl _) (by rw [hz2]; omega) (by omega)
    rw [hz1, show ((l0.length : Int) + 3).toNat = l0.length + 3 by omega, Nat.mul_one] at this
    rw [this, ← hmade]; rfl
  have hcp : (Builtin.copy_ #[22, 22] 3 #[.slice (some ⟨w.heap.size, 0, none⟩) (l0.length + 3) (l0.length + 3), .slice A0 l0.length c0]).run Try.prog (w.alloc (.cells (Array.replicate (l0.length + 3) (Value.int .u8 0)) 5)) =
      .ok (.int .i64 (l0.length : Int)) (w.alloc (.cells (nums .u8 (l0 ++ [0, 0, 0])).toArray 5)) := by
    obtain ⟨hlen, _, hcells⟩ := Kd.reads_of_C (d := (0 : Int)) hr0
    rcases Nat.eq_zero_or_pos l0.length with h0 | h0
    · obtain rfl : l0 = [] := List.eq_nil_of_length_eq_zero h0
      rw [run_copy_none _ 22 22 3 5 _ _ _ _ _ _ Try.underlying22 (by rw [hi]; simp [hz1]) (by simp)]
      rfl
    · obtain ⟨ad, rfl, hcell⟩ := hcells h0
      have := run_copy_row (P := Try.prog) (w.alloc (.cells (Array.replicate (l0.length + 3) (Value.int .u8 0)) 5)) 22 22 3 5 w.heap.size 0 (l0.length + 3) (l0.length + 3) ad l0.length c0 (Array.replicate (l0.length + 3) (Value.int .u8 0)) 5 (nums .u8 l0) Try.underlying22 (by rw [hi]; simp [hz1]) (World.alloc_heap_new w _) (by simp [nums]) (fun j v hv => by
          have hj : j < l0.length := by
            rcases Nat.lt_or_ge j l0.length with h | h
            · exact h
            · rw [List.getElem?_eq_none (by simp [nums]; omega)] at hv; cases hv
          have hc := hcell j hj
          have e : v = .int .u8 (l0.getD j 0) := by
            simp [nums, List.getElem?_eq_getElem hj] at hv
            rw [← hv, List.getD_eq_getElem?_getD, List.getElem?_eq_getElem hj]; rfl
          rw [e]
          rw [World.cell?_alloc_some _ _ _ (by rw [hc]; rfl)]; exact hc) (by simp [nums]) (fun v hv => by
          simp [nums] at hv; obtain ⟨x, _, rfl⟩ := hv; rfl)
      rw [this, World.setRow_alloc_new]
      congr 3
      · simp [nums]
      · simp [nums, List.drop_replicate]
  refine callsIn_of_wp Try.func40 rfl trivial ?_ rfl
  simp only [Try.ntmps40, List.size_toArray, List.length_cons, List.length_nil, Nat.reduceAdd, Nat.reduceSub, Array.replicate_succ, Array.replicate_zero, List.push_toArray, List.append_toArray, List.nil_append, List.cons_append]
  gi_wp2
  gi_loopw [4] (fun p wr => ∃ (m : Nat) (i : Int), p = .int .i64 i ∧ m ≤ 3 ∧ i = l0.length + m ∧ Aside0 (wr.heap[w.heap.size]? = some (.cells (nums .u8 (lentSt l0 m)).toArray 5 (0, 0))) ∧ Aside0 (Below w.heap.size w wr))
    (fun p _ => match p with | .int _ i => (l0.length + 3 - i).toNat | _ => 0)
  case atStart =>
    refine ⟨0, _, rfl, by omega, by simp, ⟨?_⟩, ⟨Below.alloc (Below.refl _ _) (Nat.le_refl _) _⟩⟩
    rw [World.alloc_heap_new]; rfl
  case round =>
    obtain ⟨m, i, rfl, hm, him, HBK, HBE⟩ := hrel
    have h0 : 0 ≤ i := by omega
    rcases Nat.lt_or_ge m 3 with h3 | h3
    · have hlt : i < (l0.length : Int) + 3 := by omega
      have hlt1 : decide (i < (l0.length : Int) + 3) = true := decide_eq_true hlt
      have hrem : Int.tmod i 90 = i % 90 := Int.tmod_eq_emod_of_nonneg h0
      have hwr : IntKind.i64.wrap (i % 90) = i % 90 := IntWalk.i64_in _ (by omega)
      have hwa : IntKind.i64.wrap (160 + i % 90) = 160 + i % 90 := IntWalk.i64_in _ (by omega)
      have hwu : IntKind.u8.wrap (160 + i % 90) = 160 + i % 90 := by rw [IntKind.wrap_u8]; omega
      have hwi : IntKind.i64.wrap (i + 1) = i + 1 := IntWalk.i64_in _ (by omega)
      have hidx : i.toNat < (lentSt l0 m).length := by rw [lentSt_len _ _ hm]; omega
      have hc : wr.cell? ⟨w.heap.size, i.toNat, none⟩ = some (.int .u8 ((lentSt l0 m).getD i.toNat 0)) := by
        rw [blk_cell HBK.out]; simp [nums, hidx, List.getElem?_eq_getElem hidx]
      have hf := blk_frozen HBK.out i.toNat
      have HIM := Aside0.mk him
      have HM := Aside0.mk hm
      have H3 := Aside0.mk h3
      clear him hm h3 hidx
      gi_wp2
      have hi2 := HIM.out
      have h3 := H3.out
      refine ⟨⟨m + 1, i + 1, rfl, by omega, by omega, ⟨?_⟩, ⟨HBE.out.setCell (p := ⟨w.heap.size, i.toNat, none⟩) (Nat.le_refl _) _⟩⟩, ?_⟩
      · refine blk_put HBK.out _ _ ?_
        rw [nums_set, show i.toNat = l0.length + m by omega, hi2, lentSt_set _ _ h3]
      · show (((l0.length : Int) + 3 - (i + 1)).toNat) < ((l0.length : Int) + 3 - i).toNat
        omega
    · have hge1 : decide (i < (l0.length : Int) + 3) = false := decide_eq_false (by omega)
      have hm3 : m = 3 := by omega
      subst hm3
      have HIM := Aside0.mk him
      have H0 := Aside0.mk h0
      clear him hm h3 h0
      gi_wp2
      go_ret
      refine ⟨_, rfl, Nat.le_refl _, ?_, HBE.out⟩
      have h := HBK.out
      have e : lentSt l0 3 = l0 ++ spare l0.length := by simp [lentSt, spare]
      rw [e] at h; exact h

theorem C_of_blk {w : World} {g : Nat} {xs : List Int} (h : w.heap[g]? = some (.cells (nums .u8 xs).toArray 5 (0, 0))) (hl : xs.length ≤ 9223372036854775807) : Kd.C (Kd.int .u8) w (some ⟨g, 0, none⟩) xs.length xs := by
  refine Kd.C_of_reads (d := (0 : Int)) (h1 := fun _ => rfl) ⟨rfl, hl, fun _ => ⟨_, rfl, fun j hj => ?_⟩⟩
  have e : (⟨g, 0, none⟩ : Addr).add j = ⟨g, j, none⟩ := by simp [Addr.add] <;> omega
  rw [e, blk_cell h]
  simp [nums, hj, List.getElem?_eq_getElem hj]

set_option maxHeartbeats 4000000 in
set_option maxRecDepth 100000 in
theorem ostiarykit_KeptBytes.in_ (n : Nat) (hn : 3 ≤ n) (g : Nat) (A1 : Option Addr) (c1 : Nat) (l0 : List Int) (w : World) (hg : w.heap[g]? = some (.cells (nums .u8 (l0 ++ spare l0.length)).toArray 5 (0, 0))) (hr1 : Kd.C (Kd.int .u8) w A1 l0.length l0) (hl : l0.length ≤ 100000000000) :
    CallsIn Fence.wide n Try.prog 44 #[.slice (some ⟨g, 0, none⟩) l0.length (l0.length + 3), .slice A1 l0.length c1] w fun e w' => e = .returned (.bool true) ∧ Below w.heap.size w w' := by
  have hw3 : IntKind.i64.wrap ((l0.length : Int) + 3) = ((l0.length + 3 : Nat) : Int) := by rw [IntWalk.i64_in _ (by omega)]; omega
  have hlen : (l0 ++ spare l0.length).length = l0.length + 3 := by simp [spare]
  have HG := Aside0.mk hg
  have HR := Aside0.mk hr1
  clear hg hr1
  refine callsIn_of_wp Try.func44 rfl trivial ?_ rfl
  simp only [Try.ntmps44, List.size_toArray, List.length_cons, List.length_nil, Nat.reduceAdd, Nat.reduceSub, Array.replicate_succ, Array.replicate_zero, List.push_toArray, List.append_toArray, List.nil_append, List.cons_append]
  gi_wp2
  have hs : ∀ (g : Nat) (W : World), (Instr.slice 22 (.slice (some ⟨g, 0, none⟩) l0.length (l0.length + 3)) none (some (.int .i64 ((l0.length : Int) + 3))) none).run Try.prog W = .ok (.slice (some ⟨g, 0, none⟩) (l0.length + 3) (l0.length + 3)) W := fun g W => by
    simp only [go_sem, Try.underlying22]
    simp
    rw [run_sliceBound W .i64 ((l0.length : Int) + 3) (l0.length + 3) .sliceAcap (by omega) (by omega)]
    have e : ((l0.length : Int) + 3).toNat = l0.length + 3 := by omega
    simp [e, Addr.add]
  have hS : ∀ (g g2 : Nat) (W : World), W.heap[g]? = some (.cells (nums .u8 (l0 ++ spare l0.length)).toArray 5 (0, 0)) → W.heap[g2]? = some (.cells (nums .u8 (l0 ++ spare l0.length)).toArray 5 (0, 0)) →
      Calls Try.prog 32 #[.slice (some ⟨g, 0, none⟩) (l0.length + 3) (l0.length + 3), .slice (some ⟨g2, 0, none⟩) (l0.length + 3) (l0.length + 3)] W fun e w' => e = .returned (.bool true) ∧ Drawn0 W w' := fun g g2 W h1 h2 => by
    have := ostiarykit_SameBytes.calls (some ⟨g, 0, none⟩) (l0.length + 3) (l0 ++ spare l0.length) (some ⟨g2, 0, none⟩) (l0.length + 3) (l0 ++ spare l0.length) true W (C_of_blk h1 (by omega)) (by omega) (C_of_blk h2 (by omega)) (by omega) (by simp [ostiarykit_SameBytes.f])
    rwa [hlen] at this
  gi_region_with (first
    | (refine ⟨trivial, fun _ => by omega, ?_⟩; refine (ostiarykit_LentBytes.in_ (n - 1) (by omega) A1 c1 l0 _ (Kd.C_below HR.out (by repeat (first | exact Below.refl _ _ | apply below_alloc | apply pw_below_drewN | apply below_drew1))) hl).mono ?_; rintro e w' ⟨g2, rfl, hg2, hb2, hbl⟩)
    | (refine ⟨trivial, fun _ => by omega, ?_⟩; refine (callsIn_wide.2 (hS g _ _ ((hbl.block g (blk_lt HG.out)).trans HG.out) hb2)).mono ?_; rintro e w'' ⟨rfl, nd, rfl⟩))
  all_goals
    gi_wp2
    go_ret
    refine ⟨rfl, ?_⟩
    repeat (first | exact (Below.refl _ _).drewN.trans hbl | exact (below_drew (Below.refl _ _)).trans hbl | exact (pw_below_drewN (Below.refl _ _) _).trans hbl | apply pw_below_drewN | apply below_drew1 | apply below_drew)
end Go.Proofs.Ytjjbhpbmfpodeaa.X
