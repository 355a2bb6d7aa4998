/- A law of the document, proved of the program: its own texts (plain functions, the walks, plain lemmas, the row), one behind the other. Conditions: those in the theorems. Part 4 of 4. Laid by the session's program wip/merge.py. -/
import Derived.Test.YtjjbhpbmfpodeaaRows
import Derived.Test.YtjjbhpbmfpodeaaProg
import Derived.Below
import Derived.Deep.Draws
import Derived.Deep.AppendLies
import Derived.Maps.AppendAt
import Derived.OwnWalk
import Derived.Laws.BytesArg
import Derived.Laws.MakeOwn
import Derived.Laws.OwnMore
import Derived.Deep.OwnRows
import Derived.Tactics
import Derived.Lib.ConvBytes
import Derived.Laws.Slices
import Derived.WalkKit
import Derived.KernelRfl
import Derived.RowKit3
import Derived.Deep.LoopGhost
import Derived.Deep.QuietTactic
import Derived.BigQuiet
import Derived.WideLaws
import Derived.Deep.DeepCutAuto
import Derived.Deep.CutBlock
import Derived.Deep.RegionHeld3
import Derived.Laws.Rows
import Derived.Lib.AppendStr
import Derived.ArgAppend
import Derived.Laws.IdiomCopy
import Derived.OrdersHeld
import Derived.Laws.BitsLemmas
import Derived.RowKit
import Derived.Test.YtjjbhpbmfpodeaaWWords
import Derived.Test.YtjjbhpbmfpodeaaWLast
import Derived.Test.YtjjbhpbmfpodeaaWTab
import Derived.Test.YtjjbhpbmfpodeaaWFour
import Derived.Test.YtjjbhpbmfpodeaaWQPut
import Derived.Test.YtjjbhpbmfpodeaaWApart
import Derived.Test.YtjjbhpbmfpodeaaWArr
import Derived.Test.YtjjbhpbmfpodeaaWZeros
import Derived.Test.YtjjbhpbmfpodeaaWFoot
import Derived.Test.YtjjbhpbmfpodeaaWKept
import Derived.Test.YtjjbhpbmfpodeaaWShare
import Derived.Test.YtjjbhpbmfpodeaaWN
import Derived.Test.YtjjbhpbmfpodeaaWFootNe
import Derived.Test.YtjjbhpbmfpodeaaWAt
import Derived.Test.YtjjbhpbmfpodeaaWEqStruct
import Derived.Test.YtjjbhpbmfpodeaaWRepsOne
import Derived.Test.YtjjbhpbmfpodeaaWInv
import Derived.Test.YtjjbhpbmfpodeaaWInvWords
import Derived.Test.YtjjbhpbmfpodeaaWGuard
import Derived.Test.YtjjbhpbmfpodeaaWNEv
import Derived.Test.YtjjbhpbmfpodeaaWMore
import Derived.RangeFuncWrites
import Derived.RangeFuncLeaves
import Derived.RangeFuncBox
import Derived.Deep.WholeRow
import Derived.Deep.RegionHeld
import Derived.Laws.CopyRow
import Derived.OwnWalkIn
import Derived.TacticsInMore
import Derived.LoopNIn
import Derived.LoopIn
import Derived.Sort.QuietIn
import Derived.Recover
import Derived.Laws.Panics
import Derived.OpenShut
import Derived.Shelf.Abstract
import Derived.Shelf.RegionOpen
import Derived.Lib.AtoiErrMem
import Derived.Maps.OwnIn
import Derived.Maps.Views
import Derived.Sort.MapsRangeIn
import Derived.StringKeys
import Derived.WalkSmall
import Derived.RecoverIn
import Derived.Laws.Pointers
import Derived.BigRegionIn
import Derived.WalkMore
import Derived.ProofKit
import Derived.JoinedOf
import Derived.ShutString
import Derived.ChangeOld
import Derived.SizedLaws
import Derived.Test.YtjjbhpbmfpodeaaJRdataLowerA
import Derived.Test.YtjjbhpbmfpodeaaJRdataLowerB
import Derived.Test.YtjjbhpbmfpodeaaJRdataLowerC
section
namespace Go.Proofs.Ytjjbhpbmfpodeaa.X
open Go.RowKit Go.Proofs.YtjjbhpbmfpodeaaW.PrintWords Go.Proofs.YtjjbhpbmfpodeaaW.PrintLast Go.Proofs.YtjjbhpbmfpodeaaW.PrintMore
attribute [local go_sem] max2_int min2_int max_two min_two max_three min_three max_four min_four   -- for this text's walks alone
set_option linter.unusedVariables false
set_option linter.unusedSimpArgs false

/-! ### ostiaryref05_Read: function 46 -/
mutual
def ostiaryref05_Read.j0 : Nat → List Int → Int → Bool → Option (ByteArray × Int × Int × Int)
  | 0, _, _, _ => none
  | k + 1, x0, x1, x21 => if x21 = true then (some ((⟨#[]⟩ : ByteArray), 0, 5, 0)) else (ostiaryref05_Read.l0 k x0 x1 (⟨#[]⟩ : ByteArray) (-1) x1 x1 4 (x0.length : Int))
def ostiaryref05_Read.l0 : Nat → List Int → Int → ByteArray → Int → Int → Int → Int → Int → Option (ByteArray × Int × Int × Int)
  | 0, _, _, _, _, _, _, _, _ => none
  | k + 1, x0, x1, x8, x9, x10, x11, x103000, x103001 => if x11 ≥ (x0.length : Int) then (some ((⟨#[]⟩ : ByteArray), 0, x103000, x103001)) else (if 0 ≤ x11 then (if x11 < (x0.length : Int) then (if (wrap64 (rd x0 x11)) = 0 then (if x9 < 0 then (if x8.size + 1 ≤ 9223372036854775807 then (some (x8 ++ (⟨#[0]⟩ : ByteArray), wrap64 (x11 + 1), 0, 0)) else (none)) else (if x8.size + 1 ≤ 9223372036854775807 then (some (x8 ++ (⟨#[0]⟩ : ByteArray), x9, 0, 0)) else (none))) else (if (wrap64 (rd x0 x11)) < 64 then (if (wrap64 ((wrap64 (x11 + 1)) + (wrap64 (rd x0 x11)))) > (x0.length : Int) then (some ((⟨#[]⟩ : ByteArray), 0, x103000, x103001)) else (if x11 ≤ (wrap64 ((wrap64 (x11 + 1)) + (wrap64 (rd x0 x11)))) then (if (wrap64 ((wrap64 (x11 + 1)) + (wrap64 (rd x0 x11)))) ≤ (x0.length : Int) then (if x8.size + (strOfNums ((x0.take ((wrap64 ((wrap64 (x11 + 1)) + (wrap64 (rd x0 x11)))) : Int).toNat).drop (x11 : Int).toNat)).size ≤ 9223372036854775807 then (if ((x8 ++ (strOfNums ((x0.take ((wrap64 ((wrap64 (x11 + 1)) + (wrap64 (rd x0 x11)))) : Int).toNat).drop (x11 : Int).toNat))).size : Int) > 254 then (some ((⟨#[]⟩ : ByteArray), 0, 3, x1)) else (ostiaryref05_Read.l0 k x0 x1 (x8 ++ (strOfNums ((x0.take ((wrap64 ((wrap64 (x11 + 1)) + (wrap64 (rd x0 x11)))) : Int).toNat).drop (x11 : Int).toNat))) x9 x10 (wrap64 ((wrap64 (x11 + 1)) + (wrap64 (rd x0 x11)))) x103000 x103001)) else (none)) else (none)) else (none))) else (if (wrap64 (rd x0 x11)) < 192 then (some ((⟨#[]⟩ : ByteArray), 0, 4, x11)) else (if (wrap64 (x11 + 1)) ≥ (x0.length : Int) then (some ((⟨#[]⟩ : ByteArray), 0, x103000, x103001)) else (if 0 ≤ (wrap64 (x11 + 1)) then (if (wrap64 (x11 + 1)) < (x0.length : Int) then (if (wrap64 ((wrap64 (256 * (wrap64 ((wrap64 (rd x0 x11)) - 192)))) + (wrap64 (rd x0 (wrap64 (x11 + 1)))))) ≥ x10 then (some ((⟨#[]⟩ : ByteArray), 0, 150, x11)) else (if x9 < 0 then (ostiaryref05_Read.l0 k x0 x1 x8 (wrap64 (x11 + 2)) (wrap64 ((wrap64 (256 * (wrap64 ((wrap64 (rd x0 x11)) - 192)))) + (wrap64 (rd x0 (wrap64 (x11 + 1)))))) (wrap64 ((wrap64 (256 * (wrap64 ((wrap64 (rd x0 x11)) - 192)))) + (wrap64 (rd x0 (wrap64 (x11 + 1)))))) x103000 x103001) else (ostiaryref05_Read.l0 k x0 x1 x8 x9 (wrap64 ((wrap64 (256 * (wrap64 ((wrap64 (rd x0 x11)) - 192)))) + (wrap64 (rd x0 (wrap64 (x11 + 1)))))) (wrap64 ((wrap64 (256 * (wrap64 ((wrap64 (rd x0 x11)) - 192)))) + (wrap64 (rd x0 (wrap64 (x11 + 1)))))) x103000 x103001))) else (none)) else (none)))))) else (none)) else (none))
end
def ostiaryref05_Read.f (k : Nat) (l0 : List Int) (a1 : Int) : Option (ByteArray × Int × Int × Int) := if a1 < 0 then (ostiaryref05_Read.j0 k l0 a1 true) else (ostiaryref05_Read.j0 k l0 a1 (decide (a1 > (l0.length : Int))))
theorem ostiaryref05_Read.mono_l : ∀ k, (∀ y0 y1 y2, LeO (ostiaryref05_Read.j0 k y0 y1 y2) (ostiaryref05_Read.j0 (k + 1) y0 y1 y2)) ∧ (∀ y0 y1 y2 y3 y4 y5 y6 y7, LeO (ostiaryref05_Read.l0 k y0 y1 y2 y3 y4 y5 y6 y7) (ostiaryref05_Read.l0 (k + 1) y0 y1 y2 y3 y4 y5 y6 y7))
  | 0 => ⟨fun _ _ _ r h => by simp [ostiaryref05_Read.j0] at h, fun _ _ _ _ _ _ _ _ r h => by simp [ostiaryref05_Read.l0] at h⟩
  | k + 1 => by
    obtain ⟨ih0, ih1⟩ := ostiaryref05_Read.mono_l k
    refine ⟨?_, ?_⟩
    · intro y0 y1 y2
      unfold ostiaryref05_Read.j0
      repeat' first
      | (with_reducible exact ih0 _ _ _)
      | (with_reducible exact ih1 _ _ _ _ _ _ _ _)
      | (with_reducible exact LeO.refl _)
      | (with_reducible exact LeO.none _)
      | (with_reducible refine LeO.ite ?_ ?_)
      | (with_reducible refine LeO.bind ?_ (fun _ => ?_))
      | exact ih0 _ _ _
      | exact ih1 _ _ _ _ _ _ _ _
      | exact LeO.none _
      | refine LeO.ite ?_ ?_
      | refine LeO.bind ?_ (fun _ => ?_)
    · intro y0 y1 y2 y3 y4 y5 y6 y7
      unfold ostiaryref05_Read.l0
      repeat' first
      | (with_reducible exact ih0 _ _ _)
      | (with_reducible exact ih1 _ _ _ _ _ _ _ _)
      | (with_reducible exact LeO.refl _)
      | (with_reducible exact LeO.none _)
      | (with_reducible refine LeO.ite ?_ ?_)
      | (with_reducible refine LeO.bind ?_ (fun _ => ?_))
      | exact ih0 _ _ _
      | exact ih1 _ _ _ _ _ _ _ _
      | exact LeO.none _
      | refine LeO.ite ?_ ?_
      | refine LeO.bind ?_ (fun _ => ?_)
theorem ostiaryref05_Read.mono : ∀ a0 a1 k, LeO (ostiaryref05_Read.f k a0 a1) (ostiaryref05_Read.f (k + 1) a0 a1) := by
  intro a0 a1 k
  obtain ⟨ih0, ih1⟩ := ostiaryref05_Read.mono_l k
  unfold ostiaryref05_Read.f
  repeat' first
      | (with_reducible exact ih0 _ _ _)
      | (with_reducible exact ih1 _ _ _ _ _ _ _ _)
      | (with_reducible exact LeO.refl _)
      | (with_reducible exact LeO.none _)
      | (with_reducible refine LeO.ite ?_ ?_)
      | (with_reducible refine LeO.bind ?_ (fun _ => ?_))
      | exact ih0 _ _ _
      | exact ih1 _ _ _ _ _ _ _ _
      | exact LeO.none _
      | refine LeO.ite ?_ ?_
      | refine LeO.bind ?_ (fun _ => ?_)
set_option maxHeartbeats 8000000 in
set_option maxRecDepth 100000 in
theorem ostiaryref05_Read.calls (k : Nat) (A0 : Option Addr) (c0 : Nat) (l0 : List Int) (a1 : Int) (r1 : ByteArray) (r2 : Int) (r3 : Int) (r4 : Int) (w : World) (hr0 : Kd.C (Kd.int .u8) w A0 l0.length l0) (hc0 : l0.length ≤ c0) (h : ostiaryref05_Read.f k l0 a1 = some (r1, r2, r3, r4)) :
    Calls Try.prog 46 #[.slice A0 l0.length c0, .int .i64 a1] w fun e w' => e = .returned (.tuple #[.string r1, .int .i64 r2, .agg #[.int .i64 r3, .int .i64 r4]]) ∧ Below w.heap.size w w' := by
  have hu31 := Try.underlying31
  have HR0 := Aside0.mk hr0
  have HC0 := Aside0.mk hc0
  clear hr0 hc0
  have HB := Aside0.mk (Below.refl w.heap.size w)
  have H : (if a1 < 0 then (ostiaryref05_Read.j0 k l0 a1 true) else (ostiaryref05_Read.j0 k l0 a1 (decide (a1 > (l0.length : Int))))) = some (r1, r2, r3, r4) := h
  clear h
  have HC3 := Aside0.mk H
  clear H
  go_enter Try.func46, Try.ntmps46
  go_upto_region 1 with (first | ((with_reducible refine gate_dst (N := 6) rfl ?_); (try (refine gate_guard (by rfl) ?_; dsimp only)); refine box_event ?hg (N := 6) ?hd (cs := #[.int .i64 0, .int .i64 0]) (t := 31) ?hr ?_; (case hd => rfl); (case hg => rfl); (case hr => first | (go_simp; done) | (go_simp; rfl)); intro gb101 hg w4 hbox hb; have n0_ := Aside0.mk (below_step (by repeat (first | (with_reducible first | exact HB.out | apply below_alloc | apply pw_below_drewN | apply below_drew1) | exact HB.out)) hb); have n1_ := Aside0.mk (hbox); have n2_ := Aside0.mk ((by rw [hg]; exact (below_size (by repeat (first | (with_reducible first | exact HB.out | apply below_alloc | apply pw_below_drewN | apply below_drew1) | exact HB.out))) : w.heap.size ≤ gb101)); have n3_ := Aside0.mk ((by rw [hg]; exact (below_size (by repeat (first | (with_reducible first | exact HB.out | apply below_alloc | apply pw_below_drewN | apply below_drew1) | exact HB.out))) : w.heap.size ≤ gb101)); clear HB; have HB := n0_; have BK101 := n1_; have GW101 := n2_; have GE101 := n3_; clear n0_ n1_ n2_ n3_; clear hb hbox hg))
  (try simp only [Act.put, List.setIfInBounds_toArray, List.set_cons_zero, List.set_cons_succ])
  go_cut [21] (fun v21 wc => ∃ (kq : Nat) (x21_2 : Bool), v21 = .bool x21_2 ∧ Aside0 (ostiaryref05_Read.j0 kq l0 a1 x21_2 = some (r1, r2, r3, r4)) ∧ Aside0 (kq ≤ k) ∧ Aside0 (wc.heap[gb101]? = some (.cells #[.int .i64 0, .int .i64 0] 31 (0, 0))) ∧ Aside0 (Below w.heap.size w wc))
  case first =>
    have H := HC3.out
    clear HC3
    by_cases c5 : a1 < 0
    · rw [if_pos c5] at H
      have c5b0 : decide (a1 < 0) = true := decide_eq_true c5
      clear c5
      (first | rw [c5b0] | (simp only [i64_w, i32_w]; rw [c5b0]) | skip)
      have H' := Aside0.mk H
      clear H
      go_wp2
      go_meet
      case rel => exact ⟨_, (true), (by first | rfl | (simp; done) | (simp [*]; done)), H', ⟨by first | omega | exact Nat.le_refl _⟩, ⟨by (with_reducible repeat (first | refine blk_drewN ?_ _ | refine blk_drew ?_ | refine blk_alloc ?_ _)); exact BK101.out⟩, ⟨by repeat (first | (with_reducible first | exact HB.out | apply below_alloc | apply pw_below_drewN | apply below_drew1 | refine below_set ?_ GE101.out) | exact HB.out)⟩⟩
    · rw [if_neg c5] at H
      have c5b0 : decide (a1 < 0) = false := decide_eq_false c5
      clear c5
      (first | rw [c5b0] | (simp only [i64_w, i32_w]; rw [c5b0]) | skip)
      have H' := Aside0.mk H
      clear H
      go_wp2
      go_meet
      case rel => exact ⟨_, (decide (a1 > (l0.length : Int))), (by first | rfl | (simp; done) | (simp [*]; done)), H', ⟨by first | omega | exact Nat.le_refl _⟩, ⟨by (with_reducible repeat (first | refine blk_drewN ?_ _ | refine blk_drew ?_ | refine blk_alloc ?_ _)); exact BK101.out⟩, ⟨by repeat (first | (with_reducible first | exact HB.out | apply below_alloc | apply pw_below_drewN | apply below_drew1 | refine below_set ?_ GE101.out) | exact HB.out)⟩⟩
  case rest =>
    clear HC3
    try clear p2
    try clear c4
    try clear c5
    try clear c5b0
    obtain ⟨kq, x21_2, rfl, HA, HJ2, BK101, HB⟩ := hcut
    cases kq with
    | zero => exact absurd HA.out (by simp [ostiaryref05_Read.j0])
    | succ kj2 =>
      have H := HA.out
      clear HA
      simp only [ostiaryref05_Read.j0] at H
      by_cases c6 : x21_2 = true
      · subst c6
        have H1 : (some ((⟨#[]⟩ : ByteArray), 0, 5, 0)) = some (r1, r2, r3, r4) := by rw [if_pos rfl] at H; exact H
        clear H
        have H := H1
        clear H1
        simp only [Option.some.injEq, Prod.mk.injEq] at H
        obtain ⟨rfl, rfl, rfl, rfl⟩ := H
        have hcz7_0 : wc.cell? ⟨gb101, 0, none⟩ = some (.int .i64 0) := (blk_cell BK101.out 0).trans rfl
        have hcz7_1 : wc.cell? ⟨gb101, 1, none⟩ = some (.int .i64 0) := (blk_cell BK101.out 1).trans rfl
        have hfz7_0 := blk_frozen BK101.out 0
        have hfz7_1 := blk_frozen BK101.out 1
        go_wp2
        refine bodyPost_ret (results_list (rs := [.tmp 4, .tmp 5, .cell 6 31]) rfl (by simp) (.tmp (.tmp (.cell gb101 31 #[.int .i64 5, .int .i64 0] (0, 0) _ rfl (by (with_reducible repeat (first | refine blk_drewN ?_ _ | refine blk_drew ?_ | refine blk_alloc ?_ _)); refine blk_put (cs := #[.int .i64 5, .int .i64 0]) ?_ 1 _ rfl; (with_reducible repeat (first | refine blk_drewN ?_ _ | refine blk_drew ?_ | refine blk_alloc ?_ _)); refine blk_put (cs := #[.int .i64 0, .int .i64 0]) ?_ 0 _ rfl; (with_reducible repeat (first | refine blk_drewN ?_ _ | refine blk_drew ?_ | refine blk_alloc ?_ _)); exact BK101.out) Try.underlying31 rfl (by kernel_rfl) .nil)))) rfl ?_
        exact ⟨by first | rfl | (simp [errW_none, errW_some] <;> rfl) | (simp [*, errW_none, errW_some] <;> rfl), by repeat (first | (with_reducible first | exact HB.out | apply below_alloc | apply pw_below_drewN | apply below_drew1 | refine below_set ?_ GE101.out) | exact HB.out)⟩
      · replace c6 := Bool.eq_false_iff.mpr c6
        subst c6
        have H1 : (ostiaryref05_Read.l0 kj2 l0 a1 (⟨#[]⟩ : ByteArray) (-1) a1 a1 4 (l0.length : Int)) = some (r1, r2, r3, r4) := by rw [if_neg (show ¬ (false = true) by decide)] at H; exact H
        clear H
        have H := H1
        clear H1
        have H' := Aside0.mk H
        clear H
        go_wp2_with (first | ((with_reducible refine gate_dst (N := 7) rfl ?_); (try (refine gate_guard (by rfl) ?_; dsimp only)); refine box_event ?hg (N := 7) ?hd (cs := #[.int .i64 0, .int .i64 0]) (t := 31) ?hr ?_; (case hd => rfl); (case hg => rfl); (case hr => first | (go_simp; done) | (go_simp; rfl)); intro gb102 hg w8 hbox hb; have n0_ := Aside0.mk (blk_below (g := gb101) (o := .cells #[.int .i64 0, .int .i64 0] 31 (0, 0)) (by (with_reducible repeat (first | refine blk_drewN ?_ _ | refine blk_drew ?_ | refine blk_alloc ?_ _)); exact BK101.out) hb); have n1_ := Aside0.mk (below_step (by repeat (first | (with_reducible first | exact HB.out | apply below_alloc | apply pw_below_drewN | apply below_drew1 | refine below_set ?_ GE101.out) | exact HB.out)) hb); have n2_ := Aside0.mk (hbox); have n3_ := Aside0.mk ((by rw [hg]; exact (below_size (by repeat (first | (with_reducible first | exact HB.out | apply below_alloc | apply pw_below_drewN | apply below_drew1 | refine below_set ?_ GE101.out) | exact HB.out))) : w.heap.size ≤ gb102)); have n4_ := Aside0.mk ((by rw [hg]; exact (below_size (by repeat (first | (with_reducible first | exact HB.out | apply below_alloc | apply pw_below_drewN | apply below_drew1 | refine below_set ?_ GE101.out) | exact HB.out))) : w.heap.size ≤ gb102)); have n5_ := Aside0.mk ((by rw [hg]; exact Nat.ne_of_lt (blk_lt (g := gb101) (o := .cells #[.int .i64 0, .int .i64 0] 31 (0, 0)) (by (with_reducible repeat (first | refine blk_drewN ?_ _ | refine blk_drew ?_ | refine blk_alloc ?_ _)); exact BK101.out)) : gb101 ≠ gb102)); have n6_ := Aside0.mk ((by rw [hg]; exact Nat.ne_of_gt (blk_lt (g := gb101) (o := .cells #[.int .i64 0, .int .i64 0] 31 (0, 0)) (by (with_reducible repeat (first | refine blk_drewN ?_ _ | refine blk_drew ?_ | refine blk_alloc ?_ _)); exact BK101.out)) : gb102 ≠ gb101)); clear BK101; clear HB; have BK101 := n0_; have HB := n1_; have BK102 := n2_; have GW102 := n3_; have GE102 := n4_; have NB101_102 := n5_; have NB102_101 := n6_; clear n0_ n1_ n2_ n3_ n4_ n5_ n6_; clear hb hbox hg; have hnb9 := NB102_101.out; have hnc9 := NB101_102.out; have hcz10_0 : w8.cell? ⟨gb102, 0, none⟩ = some (.int .i64 0) := (blk_cell BK102.out 0).trans rfl; have hcz10_1 : w8.cell? ⟨gb102, 1, none⟩ = some (.int .i64 0) := (blk_cell BK102.out 1).trans rfl; have hfz10_0 := blk_frozen BK102.out 0; have hfz10_1 := blk_frozen BK102.out 1))
        go_loopg [8, 9, 10, 11] kj2 (fun kq v8 v9 v10 v11 w' => ∃ (x8_2 : ByteArray) (x9_2 : Int) (x10_2 : Int) (x11_2 : Int) (x102000_2 : Int) (x102001_2 : Int), v8 = .string x8_2 ∧ v9 = .int .i64 x9_2 ∧ v10 = .int .i64 x10_2 ∧ v11 = .int .i64 x11_2 ∧ Aside0 (ostiaryref05_Read.l0 kq l0 a1 x8_2 x9_2 x10_2 x11_2 4 (l0.length : Int) = some (r1, r2, r3, r4)) ∧ Aside0 (kq ≤ kj2) ∧ Aside0 (w'.heap[gb101]? = some (.cells #[.int .i64 x102000_2, .int .i64 x102001_2] 31 (0, 0))) ∧ Aside0 (w'.heap[gb102]? = some (.cells #[.int .i64 4, .int .i64 (l0.length : Int)] 31 (0, 0))) ∧ Aside0 (Below w.heap.size w w'))
        case atStart => exact ⟨((⟨#[]⟩ : ByteArray)), ((-1)), (a1), (a1), (0), (0), (by first | rfl | (simp; done) | (simp [*]; done)), (by first | rfl | (simp; done) | (simp [*]; done)), (by first | rfl | (simp; done) | (simp [*]; done)), (by first | rfl | (simp; done) | (simp [*]; done)), H', ⟨Nat.le_refl _⟩, ⟨by (with_reducible repeat (first | refine blk_drewN ?_ _ | refine blk_drew ?_ | refine blk_alloc ?_ _)); refine blk_far ?_ NB101_102.out _; (with_reducible repeat (first | refine blk_drewN ?_ _ | refine blk_drew ?_ | refine blk_alloc ?_ _)); refine blk_far ?_ NB101_102.out _; (with_reducible repeat (first | refine blk_drewN ?_ _ | refine blk_drew ?_ | refine blk_alloc ?_ _)); exact BK101.out⟩, ⟨by (with_reducible repeat (first | refine blk_drewN ?_ _ | refine blk_drew ?_ | refine blk_alloc ?_ _)); refine blk_put (cs := #[.int .i64 4, .int .i64 0]) ?_ 1 _ rfl; (with_reducible repeat (first | refine blk_drewN ?_ _ | refine blk_drew ?_ | refine blk_alloc ?_ _)); refine blk_put (cs := #[.int .i64 0, .int .i64 0]) ?_ 0 _ rfl; (with_reducible repeat (first | refine blk_drewN ?_ _ | refine blk_drew ?_ | refine blk_alloc ?_ _)); exact BK102.out⟩, ⟨by repeat (first | (with_reducible first | exact HB.out | apply below_alloc | apply pw_below_drewN | apply below_drew1 | refine below_set ?_ GE101.out | refine below_set ?_ GE102.out) | exact HB.out)⟩⟩
        case round =>
          clear H'
          try clear p2
          try clear c4
          try clear c5
          try clear c5b0
          try clear c6
          try clear c9
          try clear hcz10_0
          try clear hcz10_1
          try clear hcz7_0
          try clear hcz7_1
          try clear hfz10_0
          try clear hfz10_1
          try clear hfz7_0
          try clear hfz7_1
          try clear p2
          obtain ⟨x8_2, x9_2, x10_2, x11_2, x102000_2, x102001_2, rfl, rfl, rfl, rfl, HA, HK2, BK101, BK102, HB⟩ := hrel
          cases gk with
          | zero => exact absurd HA.out (by simp [ostiaryref05_Read.l0])
          | succ k2 =>
            have H := HA.out
            clear HA
            simp only [ostiaryref05_Read.l0] at H
            by_cases c11 : x11_2 ≥ (l0.length : Int)
            · rw [if_pos c11] at H
              have c11b0 : decide ((l0.length : Int) ≤ x11_2) = true := decide_eq_true c11
              clear c11
              simp only [Option.some.injEq, Prod.mk.injEq] at H
              obtain ⟨rfl, rfl, rfl, rfl⟩ := H
              try go_wp2
              have n0_ := Aside0.mk (blk_drew BK101.out)
              have n1_ := Aside0.mk (blk_drew BK102.out)
              have n2_ := Aside0.mk (below_drew1 HB.out)
              clear BK101
              clear BK102
              clear HB
              have BK101 := n0_
              have BK102 := n1_
              have HB := n2_
              clear n0_ n1_ n2_
              refine start_ (n := 4) (S := fun w' => w'.cell? ⟨gb102, 0, none⟩ = some (.int .i64 4) ∧ w'.cell? ⟨gb102, 1, none⟩ = some (.int .i64 (l0.length : Int))) (ds := []) #[false, false, false, false] (by kernel_rfl) rfl rfl ⟨(blk_cell BK102.out 0).trans rfl, (blk_cell BK102.out 1).trans rfl⟩ (fun hHeld => ?_)
              generalize wr.drew = w12 at BK101 BK102 HB hHeld ⊢
              refine pure_ (i := 1) (N := some 4) (v := ?_) (a' := ?_) #[false, true, false, false] rfl rfl (by kernel_rfl) (fun _ _ _ h => h) (Or.inl ⟨by rfl, ?_⟩) ?_ ?_
              rotate_left
              · intro w'
                go_simp
                with_reducible rfl
              rotate_left
              · simp only [Act.put, List.setIfInBounds_toArray, List.set_cons_zero, List.set_cons_succ, i64_w, i32_w]
                rfl
              refine pure_ (i := 2) (N := some 5) (v := ?_) (a' := ?_) #[false, true, true, false] rfl rfl (by kernel_rfl) (fun _ _ _ h => h) (Or.inl ⟨by rfl, ?_⟩) ?_ ?_
              rotate_left
              · intro w'
                go_simp
                with_reducible rfl
              rotate_left
              · simp only [Act.put, List.setIfInBounds_toArray, List.set_cons_zero, List.set_cons_succ, i64_w, i32_w]
                rfl
              refine take_ (i := 0) (N := some 32) (v := ?_) (a' := ?_) #[true, true, true, false] rfl rfl (by kernel_rfl) (fun _ _ _ h => h) (Or.inl ⟨by rfl, ?_⟩) hHeld ?_ ?_
              rotate_left
              · rintro w' ⟨s0, s1⟩
                go_simp
                with_reducible rfl
              rotate_left
              · simp only [Act.put, List.setIfInBounds_toArray, List.set_cons_zero, List.set_cons_succ, i64_w, i32_w]
                rfl
              refine one_ (i := 3) (N := none) #[true, true, true, true] rfl rfl (by kernel_rfl) (by decide) (fun K hK => ?_)
              have hs13 : w12.cell? ⟨gb101, 0, none⟩ = some (.int .i64 x102000_2) := (blk_cell BK101.out 0).trans rfl
              have hfs13 := blk_frozen BK101.out 0
              have hns13_1 := NB102_101.out
              have hms13_1 := NB101_102.out
              have hs14 : w12.cell? ⟨gb101, 1, none⟩ = some (.int .i64 x102001_2) := (blk_cell BK101.out 1).trans rfl
              have hfs14 := blk_frozen BK101.out 1
              have hns14_1 := NB102_101.out
              have hms14_1 := NB101_102.out
              refine skip_ (w1 := ?_) (by rfl) rfl ?_ ?_
              rotate_left
              · go_simp
                rfl
              refine hK.out _ _ ⟨((cell_far (p := ⟨gb101, _, none⟩) NB102_101.out _).trans (((cell_far (p := ⟨gb101, _, none⟩) NB102_101.out _).trans (hHeld.1)))), ((cell_far (p := ⟨gb101, _, none⟩) NB102_101.out _).trans (((cell_far (p := ⟨gb101, _, none⟩) NB102_101.out _).trans (hHeld.2))))⟩ (fun hHeld => ?_)
              clear hK K
              refine done_ (by kernel_rfl) ?_
              try go_wp2
              refine bodyPost_ret (results_list (rs := [.tmp 4, .tmp 5, .cell 6 31]) rfl (by simp) (.tmp (.tmp (.cell gb101 31 #[.int .i64 4, .int .i64 (l0.length : Int)] (0, 0) _ rfl (by (with_reducible repeat (first | refine blk_drewN ?_ _ | refine blk_drew ?_ | refine blk_alloc ?_ _)); refine blk_put (cs := #[.int .i64 4, .int .i64 x102001_2]) ?_ 1 _ rfl; (with_reducible repeat (first | refine blk_drewN ?_ _ | refine blk_drew ?_ | refine blk_alloc ?_ _)); refine blk_put (cs := #[.int .i64 x102000_2, .int .i64 x102001_2]) ?_ 0 _ rfl; (with_reducible repeat (first | refine blk_drewN ?_ _ | refine blk_drew ?_ | refine blk_alloc ?_ _)); exact BK101.out) Try.underlying31 rfl (by kernel_rfl) .nil)))) rfl ?_
              exact ⟨by first | rfl | (simp [errW_none, errW_some] <;> rfl) | (simp [*, errW_none, errW_some] <;> rfl), by repeat (first | (with_reducible first | exact HB.out | apply below_alloc | apply pw_below_drewN | apply below_drew1 | refine below_set ?_ GE101.out | refine below_set ?_ GE102.out) | exact HB.out)⟩
            · rw [if_neg c11] at H
              have c11b0 : decide ((l0.length : Int) ≤ x11_2) = false := decide_eq_false c11
              clear c11
              by_cases c15 : 0 ≤ x11_2
              · rw [if_pos c15] at H
                have c15b0 : decide (0 ≤ x11_2) = true := decide_eq_true c15
                clear c15
                by_cases c16 : x11_2 < (l0.length : Int)
                · rw [if_pos c16] at H
                  have c16b0 : decide (x11_2 < (l0.length : Int)) = true := decide_eq_true c16
                  clear c16
                  by_cases c17 : (wrap64 (rd l0 x11_2)) = 0
                  · rw [if_pos c17] at H
                    have c17b0 : ((wrap64 (rd l0 x11_2)) == 0) = true := beq_iff_eq.mpr c17
                    have c17b1 : ((wrap64 (rd l0 x11_2)) != 0) = false := bne_eq_false_iff_eq.mpr c17
                    clear c17
                    by_cases c18 : x9_2 < 0
                    · rw [if_pos c18] at H
                      have c18b0 : decide (x9_2 < 0) = true := decide_eq_true c18
                      clear c18
                      by_cases c19 : x8_2.size + 1 ≤ 9223372036854775807
                      · rw [if_pos c19] at H
                        have c19b0 := eq_true c19
                        have c19b1 : decide (x8_2.size + 1 ≤ 9223372036854775807) = true := decide_eq_true c19
                        try have c19b2 : (9223372036854775807 < x8_2.size + 1) = False := eq_false (Nat.not_lt.2 c19)
                        simp only [Option.some.injEq, Prod.mk.injEq] at H
                        obtain ⟨rfl, rfl, rfl, rfl⟩ := H
                        have p103 : 0 ≤ (x11_2 : Int) := of_decide_eq_true (by first | (with_reducible assumption) | assumption)
                        have q103 : x11_2 < (l0.length : Int) := of_decide_eq_true (by first | (with_reducible assumption) | assumption)
                        obtain ⟨ad103, e103, hx103_0⟩ := Kd.at_int HR0.out x11_2 p103 q103
                        cases e103
                        replace hx103_0 := (HB.out.cell (World.block_lt_of_cell? w _ hx103_0)).trans hx103_0
                        replace p103 := eq_true p103
                        replace q103 := eq_true q103
                        have hnb20 := NB101_102.out
                        have hnc20 := NB102_101.out
                        have hcz21_0 : wr.cell? ⟨gb101, 0, none⟩ = some (.int .i64 x102000_2) := (blk_cell BK101.out 0).trans rfl
                        have hcz21_1 : wr.cell? ⟨gb101, 1, none⟩ = some (.int .i64 x102001_2) := (blk_cell BK101.out 1).trans rfl
                        have hfz21_0 := blk_frozen BK101.out 0
                        have hfz21_1 := blk_frozen BK101.out 1
                        go_wp2
                        refine bodyPost_ret (results_list (rs := [.tmp 4, .tmp 5, .cell 6 31]) rfl (by simp) (.tmp (.tmp (.cell gb101 31 #[.int .i64 0, .int .i64 0] (0, 0) _ rfl (by (with_reducible repeat (first | refine blk_drewN ?_ _ | refine blk_drew ?_ | refine blk_alloc ?_ _)); refine blk_put (cs := #[.int .i64 0, .int .i64 x102001_2]) ?_ 1 _ rfl; (with_reducible repeat (first | refine blk_drewN ?_ _ | refine blk_drew ?_ | refine blk_alloc ?_ _)); refine blk_put (cs := #[.int .i64 x102000_2, .int .i64 x102001_2]) ?_ 0 _ rfl; (with_reducible repeat (first | refine blk_drewN ?_ _ | refine blk_drew ?_ | refine blk_alloc ?_ _)); exact BK101.out) Try.underlying31 rfl (by kernel_rfl) .nil)))) rfl ?_
                        exact ⟨by first | rfl | (simp [errW_none, errW_some] <;> rfl) | (simp [*, errW_none, errW_some] <;> rfl), by repeat (first | (with_reducible first | exact HB.out | apply below_alloc | apply pw_below_drewN | apply below_drew1 | refine below_set ?_ GE101.out | refine below_set ?_ GE102.out) | exact HB.out)⟩
                      · rw [if_neg c19] at H
                        exact absurd H (by simp)
                    · rw [if_neg c18] at H
                      have c18b0 : decide (x9_2 < 0) = false := decide_eq_false c18
                      clear c18
                      by_cases c22 : x8_2.size + 1 ≤ 9223372036854775807
                      · rw [if_pos c22] at H
                        have c22b0 := eq_true c22
                        have c22b1 : decide (x8_2.size + 1 ≤ 9223372036854775807) = true := decide_eq_true c22
                        try have c22b2 : (9223372036854775807 < x8_2.size + 1) = False := eq_false (Nat.not_lt.2 c22)
                        simp only [Option.some.injEq, Prod.mk.injEq] at H
                        obtain ⟨rfl, rfl, rfl, rfl⟩ := H
                        have p103 : 0 ≤ (x11_2 : Int) := of_decide_eq_true (by first | (with_reducible assumption) | assumption)
                        have q103 : x11_2 < (l0.length : Int) := of_decide_eq_true (by first | (with_reducible assumption) | assumption)
                        obtain ⟨ad103, e103, hx103_0⟩ := Kd.at_int HR0.out x11_2 p103 q103
                        cases e103
                        replace hx103_0 := (HB.out.cell (World.block_lt_of_cell? w _ hx103_0)).trans hx103_0
                        replace p103 := eq_true p103
                        replace q103 := eq_true q103
                        have hnb23 := NB101_102.out
                        have hnc23 := NB102_101.out
                        have hcz24_0 : wr.cell? ⟨gb101, 0, none⟩ = some (.int .i64 x102000_2) := (blk_cell BK101.out 0).trans rfl
                        have hcz24_1 : wr.cell? ⟨gb101, 1, none⟩ = some (.int .i64 x102001_2) := (blk_cell BK101.out 1).trans rfl
                        have hfz24_0 := blk_frozen BK101.out 0
                        have hfz24_1 := blk_frozen BK101.out 1
                        go_wp2
                        refine bodyPost_ret (results_list (rs := [.tmp 4, .tmp 5, .cell 6 31]) rfl (by simp) (.tmp (.tmp (.cell gb101 31 #[.int .i64 0, .int .i64 0] (0, 0) _ rfl (by (with_reducible repeat (first | refine blk_drewN ?_ _ | refine blk_drew ?_ | refine blk_alloc ?_ _)); refine blk_put (cs := #[.int .i64 0, .int .i64 x102001_2]) ?_ 1 _ rfl; (with_reducible repeat (first | refine blk_drewN ?_ _ | refine blk_drew ?_ | refine blk_alloc ?_ _)); refine blk_put (cs := #[.int .i64 x102000_2, .int .i64 x102001_2]) ?_ 0 _ rfl; (with_reducible repeat (first | refine blk_drewN ?_ _ | refine blk_drew ?_ | refine blk_alloc ?_ _)); exact BK101.out) Try.underlying31 rfl (by kernel_rfl) .nil)))) rfl ?_
                        exact ⟨by first | rfl | (simp [errW_none, errW_some] <;> rfl) | (simp [*, errW_none, errW_some] <;> rfl), by repeat (first | (with_reducible first | exact HB.out | apply below_alloc | apply pw_below_drewN | apply below_drew1 | refine below_set ?_ GE101.out | refine below_set ?_ GE102.out) | exact HB.out)⟩
                      · rw [if_neg c22] at H
                        exact absurd H (by simp)
                  · rw [if_neg c17] at H
                    have c17b0 : ((wrap64 (rd l0 x11_2)) == 0) = false := beq_eq_false_iff_ne.mpr c17
                    have c17b1 : ((wrap64 (rd l0 x11_2)) != 0) = true := bne_iff_ne.mpr c17
                    by_cases c25 : (wrap64 (rd l0 x11_2)) < 64
                    · rw [if_pos c25] at H
                      have c25b0 : decide ((wrap64 (rd l0 x11_2)) < 64) = true := decide_eq_true c25
                      clear c25
                      by_cases c26 : (wrap64 ((wrap64 (x11_2 + 1)) + (wrap64 (rd l0 x11_2)))) > (l0.length : Int)
                      · rw [if_pos c26] at H
                        have c26b0 : decide ((l0.length : Int) < (wrap64 ((wrap64 (x11_2 + 1)) + (wrap64 (rd l0 x11_2))))) = true := decide_eq_true c26
                        clear c26
                        simp only [Option.some.injEq, Prod.mk.injEq] at H
                        obtain ⟨rfl, rfl, rfl, rfl⟩ := H
                        have p103 : 0 ≤ (x11_2 : Int) := of_decide_eq_true (by first | (with_reducible assumption) | assumption)
                        have q103 : x11_2 < (l0.length : Int) := of_decide_eq_true (by first | (with_reducible assumption) | assumption)
                        obtain ⟨ad103, e103, hx103_0⟩ := Kd.at_int HR0.out x11_2 p103 q103
                        cases e103
                        replace hx103_0 := (HB.out.cell (World.block_lt_of_cell? w _ hx103_0)).trans hx103_0
                        replace p103 := eq_true p103
                        replace q103 := eq_true q103
                        try go_wp2
                        have n0_ := Aside0.mk (blk_drew BK101.out)
                        have n1_ := Aside0.mk (blk_drew BK102.out)
                        have n2_ := Aside0.mk (below_drew1 HB.out)
                        clear BK101
                        clear BK102
                        clear HB
                        have BK101 := n0_
                        have BK102 := n1_
                        have HB := n2_
                        clear n0_ n1_ n2_
                        refine start_ (n := 4) (S := fun w' => w'.cell? ⟨gb102, 0, none⟩ = some (.int .i64 4) ∧ w'.cell? ⟨gb102, 1, none⟩ = some (.int .i64 (l0.length : Int))) (ds := []) #[false, false, false, false] (by kernel_rfl) rfl rfl ⟨(blk_cell BK102.out 0).trans rfl, (blk_cell BK102.out 1).trans rfl⟩ (fun hHeld => ?_)
                        generalize wr.drew = w27 at BK101 BK102 HB hHeld ⊢
                        refine pure_ (i := 1) (N := some 4) (v := ?_) (a' := ?_) #[false, true, false, false] rfl rfl (by kernel_rfl) (fun _ _ _ h => h) (Or.inl ⟨by rfl, ?_⟩) ?_ ?_
                        rotate_left
                        · intro w'
                          go_simp
                          with_reducible rfl
                        rotate_left
                        · simp only [Act.put, List.setIfInBounds_toArray, List.set_cons_zero, List.set_cons_succ, i64_w, i32_w]
                          rfl
                        refine pure_ (i := 2) (N := some 5) (v := ?_) (a' := ?_) #[false, true, true, false] rfl rfl (by kernel_rfl) (fun _ _ _ h => h) (Or.inl ⟨by rfl, ?_⟩) ?_ ?_
                        rotate_left
                        · intro w'
                          go_simp
                          with_reducible rfl
                        rotate_left
                        · simp only [Act.put, List.setIfInBounds_toArray, List.set_cons_zero, List.set_cons_succ, i64_w, i32_w]
                          rfl
                        refine take_ (i := 0) (N := some 86) (v := ?_) (a' := ?_) #[true, true, true, false] rfl rfl (by kernel_rfl) (fun _ _ _ h => h) (Or.inl ⟨by rfl, ?_⟩) hHeld ?_ ?_
                        rotate_left
                        · rintro w' ⟨s0, s1⟩
                          go_simp
                          with_reducible rfl
                        rotate_left
                        · simp only [Act.put, List.setIfInBounds_toArray, List.set_cons_zero, List.set_cons_succ, i64_w, i32_w]
                          rfl
                        refine one_ (i := 3) (N := none) #[true, true, true, true] rfl rfl (by kernel_rfl) (by decide) (fun K hK => ?_)
                        have hs28 : w27.cell? ⟨gb101, 0, none⟩ = some (.int .i64 x102000_2) := (blk_cell BK101.out 0).trans rfl
                        have hfs28 := blk_frozen BK101.out 0
                        have hns28_1 := NB102_101.out
                        have hms28_1 := NB101_102.out
                        have hs29 : w27.cell? ⟨gb101, 1, none⟩ = some (.int .i64 x102001_2) := (blk_cell BK101.out 1).trans rfl
                        have hfs29 := blk_frozen BK101.out 1
                        have hns29_1 := NB102_101.out
                        have hms29_1 := NB101_102.out
                        refine skip_ (w1 := ?_) (by rfl) rfl ?_ ?_
                        rotate_left
                        · go_simp
                          rfl
                        refine hK.out _ _ ⟨((cell_far (p := ⟨gb101, _, none⟩) NB102_101.out _).trans (((cell_far (p := ⟨gb101, _, none⟩) NB102_101.out _).trans (hHeld.1)))), ((cell_far (p := ⟨gb101, _, none⟩) NB102_101.out _).trans (((cell_far (p := ⟨gb101, _, none⟩) NB102_101.out _).trans (hHeld.2))))⟩ (fun hHeld => ?_)
                        clear hK K
                        refine done_ (by kernel_rfl) ?_
                        try go_wp2
                        refine bodyPost_ret (results_list (rs := [.tmp 4, .tmp 5, .cell 6 31]) rfl (by simp) (.tmp (.tmp (.cell gb101 31 #[.int .i64 4, .int .i64 (l0.length : Int)] (0, 0) _ rfl (by (with_reducible repeat (first | refine blk_drewN ?_ _ | refine blk_drew ?_ | refine blk_alloc ?_ _)); refine blk_put (cs := #[.int .i64 4, .int .i64 x102001_2]) ?_ 1 _ rfl; (with_reducible repeat (first | refine blk_drewN ?_ _ | refine blk_drew ?_ | refine blk_alloc ?_ _)); refine blk_put (cs := #[.int .i64 x102000_2, .int .i64 x102001_2]) ?_ 0 _ rfl; (with_reducible repeat (first | refine blk_drewN ?_ _ | refine blk_drew ?_ | refine blk_alloc ?_ _)); exact BK101.out) Try.underlying31 rfl (by kernel_rfl) .nil)))) rfl ?_
                        exact ⟨by first | rfl | (simp [errW_none, errW_some] <;> rfl) | (simp [*, errW_none, errW_some] <;> rfl), by repeat (first | (with_reducible first | exact HB.out | apply below_alloc | apply pw_below_drewN | apply below_drew1 | refine below_set ?_ GE101.out | refine below_set ?_ GE102.out) | exact HB.out)⟩
                      · rw [if_neg c26] at H
                        have c26b0 : decide ((l0.length : Int) < (wrap64 ((wrap64 (x11_2 + 1)) + (wrap64 (rd l0 x11_2))))) = false := decide_eq_false c26
                        clear c26
                        have c30b0 := eq_true (of_decide_eq_true (by first | (with_reducible assumption) | assumption) : 0 ≤ x11_2)
                        by_cases c31 : x11_2 ≤ (wrap64 ((wrap64 (x11_2 + 1)) + (wrap64 (rd l0 x11_2))))
                        · rw [if_pos c31] at H
                          have c31b0 := eq_true c31
                          have c31b1 : decide (x11_2 ≤ (wrap64 ((wrap64 (x11_2 + 1)) + (wrap64 (rd l0 x11_2))))) = true := decide_eq_true c31
                          by_cases c32 : (wrap64 ((wrap64 (x11_2 + 1)) + (wrap64 (rd l0 x11_2)))) ≤ (l0.length : Int)
                          · rw [if_pos c32] at H
                            have c32b0 := eq_true c32
                            have c32b1 : decide ((wrap64 ((wrap64 (x11_2 + 1)) + (wrap64 (rd l0 x11_2)))) ≤ (l0.length : Int)) = true := decide_eq_true c32
                            by_cases c33 : x8_2.size + (strOfNums ((l0.take ((wrap64 ((wrap64 (x11_2 + 1)) + (wrap64 (rd l0 x11_2)))) : Int).toNat).drop (x11_2 : Int).toNat)).size ≤ 9223372036854775807
                            · rw [if_pos c33] at H
                              have c33b0 := eq_true c33
                              have c33b1 : decide (x8_2.size + (strOfNums ((l0.take ((wrap64 ((wrap64 (x11_2 + 1)) + (wrap64 (rd l0 x11_2)))) : Int).toNat).drop (x11_2 : Int).toNat)).size ≤ 9223372036854775807) = true := decide_eq_true c33
                              try have c33b2 : (9223372036854775807 < x8_2.size + (strOfNums ((l0.take ((wrap64 ((wrap64 (x11_2 + 1)) + (wrap64 (rd l0 x11_2)))) : Int).toNat).drop (x11_2 : Int).toNat)).size) = False := eq_false (Nat.not_lt.2 c33)
                              by_cases c34 : ((x8_2 ++ (strOfNums ((l0.take ((wrap64 ((wrap64 (x11_2 + 1)) + (wrap64 (rd l0 x11_2)))) : Int).toNat).drop (x11_2 : Int).toNat))).size : Int) > 254
                              · rw [if_pos c34] at H
                                have c34b0 : decide (254 < ((x8_2 ++ (strOfNums ((l0.take ((wrap64 ((wrap64 (x11_2 + 1)) + (wrap64 (rd l0 x11_2)))) : Int).toNat).drop (x11_2 : Int).toNat))).size : Int)) = true := decide_eq_true c34
                                have c34s : decide ((254 : Int) < (x8_2.size : Int) + ((strOfNums ((l0.take ((wrap64 ((wrap64 (x11_2 + 1)) + (wrap64 (rd l0 x11_2)))) : Int).toNat).drop (x11_2 : Int).toNat)).size : Int)) = true := decide_eq_true (by have h9_ := c34; rw [ByteArray.size_append] at h9_; omega)
                                have c34b1 : decide (254 < (x8_2 ++ (strOfNums ((l0.take ((wrap64 ((wrap64 (x11_2 + 1)) + (wrap64 (rd l0 x11_2)))) : Int).toNat).drop (x11_2 : Int).toNat))).size) = true := decide_eq_true (by omega)
                                clear c34
                                simp only [Option.some.injEq, Prod.mk.injEq] at H
                                obtain ⟨rfl, rfl, rfl, rfl⟩ := H
                                have p103 : 0 ≤ (x11_2 : Int) := of_decide_eq_true (by first | (with_reducible assumption) | assumption)
                                have q103 : x11_2 < (l0.length : Int) := of_decide_eq_true (by first | (with_reducible assumption) | assumption)
                                obtain ⟨ad103, e103, hx103_0⟩ := Kd.at_int HR0.out x11_2 p103 q103
                                cases e103
                                replace hx103_0 := (HB.out.cell (World.block_lt_of_cell? w _ hx103_0)).trans hx103_0
                                replace p103 := eq_true p103
                                replace q103 := eq_true q103
                                obtain ⟨i035, hi035, _, hsz35, _⟩ := info_parts info5
                                obtain ⟨A35, hcut35, hA35, hC35⟩ := print_mid_of (P := Try.prog) (Value.int .u8) 0 22 5 .i64 .i64 Try.underlying22 hi035 hsz35 (some ad103) c0 l0 x11_2 (wrap64 ((wrap64 (x11_2 + 1)) + (wrap64 (rd l0 x11_2)))) (of_decide_eq_true (by first | (with_reducible assumption) | assumption)) (by first | omega | exact of_decide_eq_true (by first | (with_reducible assumption) | assumption)) (of_decide_eq_true (by first | (with_reducible assumption) | assumption)) HC0.out
                                have HR104 := Aside0.mk (Kd.C_of_reads (h1 := fun _ => rfl) (hA35 _ (Kd.reads_of_C HR0.out)))
                                have HC104 := Aside0.mk hC35
                                clear hA35 hC35 hi035 hsz35
                                have hcv36 := Kd.C_string (P := Try.prog) (A := A35) (c := (c0 - x11_2.toNat)) Try.underlying22 Try.underlying5 Try.underlying9 (Kd.C_below HR104.out HB.out)
                                have hcv36h : ((wrap64 ((wrap64 (x11_2 + 1)) + (wrap64 (rd l0 x11_2)))) : Int) ≤ (l0.length : Int) := of_decide_eq_true (by first | (with_reducible assumption) | assumption)
                                have hcv36b := hcv36
                                try rw [List.length_drop, List.length_take, Nat.min_eq_left (show ((wrap64 ((wrap64 (x11_2 + 1)) + (wrap64 (rd l0 x11_2)))) : Int).toNat ≤ l0.length from by omega)] at hcv36b
                                clear hcv36h
                                have hnb37 := NB101_102.out
                                have hnc37 := NB102_101.out
                                have hcz38_0 : wr.cell? ⟨gb101, 0, none⟩ = some (.int .i64 x102000_2) := (blk_cell BK101.out 0).trans rfl
                                have hcz38_1 : wr.cell? ⟨gb101, 1, none⟩ = some (.int .i64 x102001_2) := (blk_cell BK101.out 1).trans rfl
                                have hfz38_0 := blk_frozen BK101.out 0
                                have hfz38_1 := blk_frozen BK101.out 1
                                go_wp2
                                refine bodyPost_ret (results_list (rs := [.tmp 4, .tmp 5, .cell 6 31]) rfl (by simp) (.tmp (.tmp (.cell gb101 31 #[.int .i64 3, .int .i64 a1] (0, 0) _ rfl (by (with_reducible repeat (first | refine blk_drewN ?_ _ | refine blk_drew ?_ | refine blk_alloc ?_ _)); refine blk_put (cs := #[.int .i64 3, .int .i64 x102001_2]) ?_ 1 _ rfl; (with_reducible repeat (first | refine blk_drewN ?_ _ | refine blk_drew ?_ | refine blk_alloc ?_ _)); refine blk_put (cs := #[.int .i64 x102000_2, .int .i64 x102001_2]) ?_ 0 _ rfl; (with_reducible repeat (first | refine blk_drewN ?_ _ | refine blk_drew ?_ | refine blk_alloc ?_ _)); exact BK101.out) Try.underlying31 rfl (by kernel_rfl) .nil)))) rfl ?_
                                exact ⟨by first | rfl | (simp [errW_none, errW_some] <;> rfl) | (simp [*, errW_none, errW_some] <;> rfl), by repeat (first | (with_reducible first | exact HB.out | apply below_alloc | apply pw_below_drewN | apply below_drew1 | refine below_set ?_ GE101.out | refine below_set ?_ GE102.out) | exact HB.out)⟩
                              · rw [if_neg c34] at H
                                have c34b0 : decide (254 < ((x8_2 ++ (strOfNums ((l0.take ((wrap64 ((wrap64 (x11_2 + 1)) + (wrap64 (rd l0 x11_2)))) : Int).toNat).drop (x11_2 : Int).toNat))).size : Int)) = false := decide_eq_false c34
                                have c34s : decide ((254 : Int) < (x8_2.size : Int) + ((strOfNums ((l0.take ((wrap64 ((wrap64 (x11_2 + 1)) + (wrap64 (rd l0 x11_2)))) : Int).toNat).drop (x11_2 : Int).toNat)).size : Int)) = false := decide_eq_false (by have h9_ := c34; rw [ByteArray.size_append] at h9_; omega)
                                have c34b1 : decide (254 < (x8_2 ++ (strOfNums ((l0.take ((wrap64 ((wrap64 (x11_2 + 1)) + (wrap64 (rd l0 x11_2)))) : Int).toNat).drop (x11_2 : Int).toNat))).size) = false := decide_eq_false (by omega)
                                clear c34
                                have H' := Aside0.mk H
                                clear H
                                have p103 : 0 ≤ (x11_2 : Int) := of_decide_eq_true (by first | (with_reducible assumption) | assumption)
                                have q103 : x11_2 < (l0.length : Int) := of_decide_eq_true (by first | (with_reducible assumption) | assumption)
                                obtain ⟨ad103, e103, hx103_0⟩ := Kd.at_int HR0.out x11_2 p103 q103
                                cases e103
                                replace hx103_0 := (HB.out.cell (World.block_lt_of_cell? w _ hx103_0)).trans hx103_0
                                replace p103 := eq_true p103
                                replace q103 := eq_true q103
                                obtain ⟨i039, hi039, _, hsz39, _⟩ := info_parts info5
                                obtain ⟨A39, hcut39, hA39, hC39⟩ := print_mid_of (P := Try.prog) (Value.int .u8) 0 22 5 .i64 .i64 Try.underlying22 hi039 hsz39 (some ad103) c0 l0 x11_2 (wrap64 ((wrap64 (x11_2 + 1)) + (wrap64 (rd l0 x11_2)))) (of_decide_eq_true (by first | (with_reducible assumption) | assumption)) (by first | omega | exact of_decide_eq_true (by first | (with_reducible assumption) | assumption)) (of_decide_eq_true (by first | (with_reducible assumption) | assumption)) HC0.out
                                have HR104 := Aside0.mk (Kd.C_of_reads (h1 := fun _ => rfl) (hA39 _ (Kd.reads_of_C HR0.out)))
                                have HC104 := Aside0.mk hC39
                                clear hA39 hC39 hi039 hsz39
                                have hcv40 := Kd.C_string (P := Try.prog) (A := A39) (c := (c0 - x11_2.toNat)) Try.underlying22 Try.underlying5 Try.underlying9 (Kd.C_below HR104.out HB.out)
                                have hcv40h : ((wrap64 ((wrap64 (x11_2 + 1)) + (wrap64 (rd l0 x11_2)))) : Int) ≤ (l0.length : Int) := of_decide_eq_true (by first | (with_reducible assumption) | assumption)
                                have hcv40b := hcv40
                                try rw [List.length_drop, List.length_take, Nat.min_eq_left (show ((wrap64 ((wrap64 (x11_2 + 1)) + (wrap64 (rd l0 x11_2)))) : Int).toNat ≤ l0.length from by omega)] at hcv40b
                                clear hcv40h
                                go_wp2
                                go_roundg k2
                                case measure => have := HJ2.out; have := HK2.out; omega
                                case rel => exact ⟨(x8_2 ++ (strOfNums ((l0.take ((wrap64 ((wrap64 (x11_2 + 1)) + (wrap64 (rd l0 x11_2)))) : Int).toNat).drop (x11_2 : Int).toNat))), (x9_2), (x10_2), (wrap64 ((wrap64 (x11_2 + 1)) + (wrap64 (rd l0 x11_2)))), (x102000_2), (x102001_2), (by first | rfl | (simp; done) | (simp [*]; done)), (by first | rfl | (simp; done) | (simp [*]; done)), (by first | rfl | (simp; done) | (simp [*]; done)), (by first | rfl | (simp; done) | (simp [*]; done)), H', ⟨by have := HJ2.out; have := HK2.out; omega⟩, ⟨by (with_reducible repeat (first | refine blk_drewN ?_ _ | refine blk_drew ?_ | refine blk_alloc ?_ _)); exact BK101.out⟩, ⟨by (with_reducible repeat (first | refine blk_drewN ?_ _ | refine blk_drew ?_ | refine blk_alloc ?_ _)); exact BK102.out⟩, ⟨by repeat (first | (with_reducible first | exact HB.out | apply below_alloc | apply pw_below_drewN | apply below_drew1 | refine below_set ?_ GE101.out | refine below_set ?_ GE102.out) | exact HB.out)⟩⟩
                            · rw [if_neg c33] at H
                              exact absurd H (by simp)
                          · rw [if_neg c32] at H
                            exact absurd H (by simp)
                        · rw [if_neg c31] at H
                          exact absurd H (by simp)
                    · rw [if_neg c25] at H
                      have c25b0 : decide ((wrap64 (rd l0 x11_2)) < 64) = false := decide_eq_false c25
                      clear c25
                      by_cases c41 : (wrap64 (rd l0 x11_2)) < 192
                      · rw [if_pos c41] at H
                        have c41b0 : decide ((wrap64 (rd l0 x11_2)) < 192) = true := decide_eq_true c41
                        clear c41
                        simp only [Option.some.injEq, Prod.mk.injEq] at H
                        obtain ⟨rfl, rfl, rfl, rfl⟩ := H
                        have p103 : 0 ≤ (x11_2 : Int) := of_decide_eq_true (by first | (with_reducible assumption) | assumption)
                        have q103 : x11_2 < (l0.length : Int) := of_decide_eq_true (by first | (with_reducible assumption) | assumption)
                        obtain ⟨ad103, e103, hx103_0⟩ := Kd.at_int HR0.out x11_2 p103 q103
                        cases e103
                        replace hx103_0 := (HB.out.cell (World.block_lt_of_cell? w _ hx103_0)).trans hx103_0
                        replace p103 := eq_true p103
                        replace q103 := eq_true q103
                        have hnb42 := NB101_102.out
                        have hnc42 := NB102_101.out
                        have hcz43_0 : wr.cell? ⟨gb101, 0, none⟩ = some (.int .i64 x102000_2) := (blk_cell BK101.out 0).trans rfl
                        have hcz43_1 : wr.cell? ⟨gb101, 1, none⟩ = some (.int .i64 x102001_2) := (blk_cell BK101.out 1).trans rfl
                        have hfz43_0 := blk_frozen BK101.out 0
                        have hfz43_1 := blk_frozen BK101.out 1
                        go_wp2
                        refine bodyPost_ret (results_list (rs := [.tmp 4, .tmp 5, .cell 6 31]) rfl (by simp) (.tmp (.tmp (.cell gb101 31 #[.int .i64 4, .int .i64 x11_2] (0, 0) _ rfl (by (with_reducible repeat (first | refine blk_drewN ?_ _ | refine blk_drew ?_ | refine blk_alloc ?_ _)); refine blk_put (cs := #[.int .i64 4, .int .i64 x102001_2]) ?_ 1 _ rfl; (with_reducible repeat (first | refine blk_drewN ?_ _ | refine blk_drew ?_ | refine blk_alloc ?_ _)); refine blk_put (cs := #[.int .i64 x102000_2, .int .i64 x102001_2]) ?_ 0 _ rfl; (with_reducible repeat (first | refine blk_drewN ?_ _ | refine blk_drew ?_ | refine blk_alloc ?_ _)); exact BK101.out) Try.underlying31 rfl (by kernel_rfl) .nil)))) rfl ?_
                        exact ⟨by first | rfl | (simp [errW_none, errW_some] <;> rfl) | (simp [*, errW_none, errW_some] <;> rfl), by repeat (first | (with_reducible first | exact HB.out | apply below_alloc | apply pw_below_drewN | apply below_drew1 | refine below_set ?_ GE101.out | refine below_set ?_ GE102.out) | exact HB.out)⟩
                      · rw [if_neg c41] at H
                        have c41b0 : decide ((wrap64 (rd l0 x11_2)) < 192) = false := decide_eq_false c41
                        clear c41
                        by_cases c44 : (wrap64 (x11_2 + 1)) ≥ (l0.length : Int)
                        · rw [if_pos c44] at H
                          have c44b0 : decide ((l0.length : Int) ≤ (wrap64 (x11_2 + 1))) = true := decide_eq_true c44
                          clear c44
                          simp only [Option.some.injEq, Prod.mk.injEq] at H
                          obtain ⟨rfl, rfl, rfl, rfl⟩ := H
                          have p103 : 0 ≤ (x11_2 : Int) := of_decide_eq_true (by first | (with_reducible assumption) | assumption)
                          have q103 : x11_2 < (l0.length : Int) := of_decide_eq_true (by first | (with_reducible assumption) | assumption)
                          obtain ⟨ad103, e103, hx103_0⟩ := Kd.at_int HR0.out x11_2 p103 q103
                          cases e103
                          replace hx103_0 := (HB.out.cell (World.block_lt_of_cell? w _ hx103_0)).trans hx103_0
                          replace p103 := eq_true p103
                          replace q103 := eq_true q103
                          try go_wp2
                          have n0_ := Aside0.mk (blk_drew BK101.out)
                          have n1_ := Aside0.mk (blk_drew BK102.out)
                          have n2_ := Aside0.mk (below_drew1 HB.out)
                          clear BK101
                          clear BK102
                          clear HB
                          have BK101 := n0_
                          have BK102 := n1_
                          have HB := n2_
                          clear n0_ n1_ n2_
                          refine start_ (n := 4) (S := fun w' => w'.cell? ⟨gb102, 0, none⟩ = some (.int .i64 4) ∧ w'.cell? ⟨gb102, 1, none⟩ = some (.int .i64 (l0.length : Int))) (ds := []) #[false, false, false, false] (by kernel_rfl) rfl rfl ⟨(blk_cell BK102.out 0).trans rfl, (blk_cell BK102.out 1).trans rfl⟩ (fun hHeld => ?_)
                          generalize wr.drew = w45 at BK101 BK102 HB hHeld ⊢
                          refine pure_ (i := 1) (N := some 4) (v := ?_) (a' := ?_) #[false, true, false, false] rfl rfl (by kernel_rfl) (fun _ _ _ h => h) (Or.inl ⟨by rfl, ?_⟩) ?_ ?_
                          rotate_left
                          · intro w'
                            go_simp
                            with_reducible rfl
                          rotate_left
                          · simp only [Act.put, List.setIfInBounds_toArray, List.set_cons_zero, List.set_cons_succ, i64_w, i32_w]
                            rfl
                          refine pure_ (i := 2) (N := some 5) (v := ?_) (a' := ?_) #[false, true, true, false] rfl rfl (by kernel_rfl) (fun _ _ _ h => h) (Or.inl ⟨by rfl, ?_⟩) ?_ ?_
                          rotate_left
                          · intro w'
                            go_simp
                            with_reducible rfl
                          rotate_left
                          · simp only [Act.put, List.setIfInBounds_toArray, List.set_cons_zero, List.set_cons_succ, i64_w, i32_w]
                            rfl
                          refine take_ (i := 0) (N := some 43) (v := ?_) (a' := ?_) #[true, true, true, false] rfl rfl (by kernel_rfl) (fun _ _ _ h => h) (Or.inl ⟨by rfl, ?_⟩) hHeld ?_ ?_
                          rotate_left
                          · rintro w' ⟨s0, s1⟩
                            go_simp
                            with_reducible rfl
                          rotate_left
                          · simp only [Act.put, List.setIfInBounds_toArray, List.set_cons_zero, List.set_cons_succ, i64_w, i32_w]
                            rfl
                          refine one_ (i := 3) (N := none) #[true, true, true, true] rfl rfl (by kernel_rfl) (by decide) (fun K hK => ?_)
                          have hs46 : w45.cell? ⟨gb101, 0, none⟩ = some (.int .i64 x102000_2) := (blk_cell BK101.out 0).trans rfl
                          have hfs46 := blk_frozen BK101.out 0
                          have hns46_1 := NB102_101.out
                          have hms46_1 := NB101_102.out
                          have hs47 : w45.cell? ⟨gb101, 1, none⟩ = some (.int .i64 x102001_2) := (blk_cell BK101.out 1).trans rfl
                          have hfs47 := blk_frozen BK101.out 1
                          have hns47_1 := NB102_101.out
                          have hms47_1 := NB101_102.out
                          refine skip_ (w1 := ?_) (by rfl) rfl ?_ ?_
                          rotate_left
                          · go_simp
                            rfl
                          refine hK.out _ _ ⟨((cell_far (p := ⟨gb101, _, none⟩) NB102_101.out _).trans (((cell_far (p := ⟨gb101, _, none⟩) NB102_101.out _).trans (hHeld.1)))), ((cell_far (p := ⟨gb101, _, none⟩) NB102_101.out _).trans (((cell_far (p := ⟨gb101, _, none⟩) NB102_101.out _).trans (hHeld.2))))⟩ (fun hHeld => ?_)
                          clear hK K
                          refine done_ (by kernel_rfl) ?_
                          try go_wp2
                          refine bodyPost_ret (results_list (rs := [.tmp 4, .tmp 5, .cell 6 31]) rfl (by simp) (.tmp (.tmp (.cell gb101 31 #[.int .i64 4, .int .i64 (l0.length : Int)] (0, 0) _ rfl (by (with_reducible repeat (first | refine blk_drewN ?_ _ | refine blk_drew ?_ | refine blk_alloc ?_ _)); refine blk_put (cs := #[.int .i64 4, .int .i64 x102001_2]) ?_ 1 _ rfl; (with_reducible repeat (first | refine blk_drewN ?_ _ | refine blk_drew ?_ | refine blk_alloc ?_ _)); refine blk_put (cs := #[.int .i64 x102000_2, .int .i64 x102001_2]) ?_ 0 _ rfl; (with_reducible repeat (first | refine blk_drewN ?_ _ | refine blk_drew ?_ | refine blk_alloc ?_ _)); exact BK101.out) Try.underlying31 rfl (by kernel_rfl) .nil)))) rfl ?_
                          exact ⟨by first | rfl | (simp [errW_none, errW_some] <;> rfl) | (simp [*, errW_none, errW_some] <;> rfl), by repeat (first | (with_reducible first | exact HB.out | apply below_alloc | apply pw_below_drewN | apply below_drew1 | refine below_set ?_ GE101.out | refine below_set ?_ GE102.out) | exact HB.out)⟩
                        · rw [if_neg c44] at H
                          have c44b0 : decide ((l0.length : Int) ≤ (wrap64 (x11_2 + 1))) = false := decide_eq_false c44
                          clear c44
                          obtain ⟨ji48, hji48⟩ : ∃ j_ : Int, (wrap64 (x11_2 + 1)) = j_ := ⟨_, rfl⟩
                          replace H : (if 0 ≤ (ji48) then (if (ji48) < (l0.length : Int) then (if (wrap64 ((wrap64 (256 * (wrap64 ((wrap64 (rd l0 x11_2)) - 192)))) + (wrap64 (rd l0 (ji48))))) ≥ x10_2 then (some ((⟨#[]⟩ : ByteArray), 0, 150, x11_2)) else (if x9_2 < 0 then (ostiaryref05_Read.l0 k2 l0 a1 x8_2 (wrap64 (x11_2 + 2)) (wrap64 ((wrap64 (256 * (wrap64 ((wrap64 (rd l0 x11_2)) - 192)))) + (wrap64 (rd l0 (ji48))))) (wrap64 ((wrap64 (256 * (wrap64 ((wrap64 (rd l0 x11_2)) - 192)))) + (wrap64 (rd l0 (ji48))))) 4 (l0.length : Int)) else (ostiaryref05_Read.l0 k2 l0 a1 x8_2 x9_2 (wrap64 ((wrap64 (256 * (wrap64 ((wrap64 (rd l0 x11_2)) - 192)))) + (wrap64 (rd l0 (ji48))))) (wrap64 ((wrap64 (256 * (wrap64 ((wrap64 (rd l0 x11_2)) - 192)))) + (wrap64 (rd l0 (ji48))))) 4 (l0.length : Int)))) else (none)) else (none)) = some (r1, r2, r3, r4) := by first | (rw [hji48] at H; exact H) | (simp only [hji48] at H ⊢; exact H)
                          (try rw [hji48] at c44b0)
                          have hji48w : (IntKind.i64.wrap (x11_2 + 1)) = ji48 := (i64_w _).trans hji48
                          by_cases c49 : 0 ≤ (ji48)
                          · rw [if_pos c49] at H
                            have c49b0 : decide (0 ≤ (ji48)) = true := decide_eq_true c49
                            clear c49
                            by_cases c50 : (ji48) < (l0.length : Int)
                            · rw [if_pos c50] at H
                              have c50b0 : decide ((ji48) < (l0.length : Int)) = true := decide_eq_true c50
                              clear c50
                              by_cases c51 : (wrap64 ((wrap64 (256 * (wrap64 ((wrap64 (rd l0 x11_2)) - 192)))) + (wrap64 (rd l0 (ji48))))) ≥ x10_2
                              · rw [if_pos c51] at H
                                have c51b0 : decide (x10_2 ≤ (wrap64 ((wrap64 (256 * (wrap64 ((wrap64 (rd l0 x11_2)) - 192)))) + (wrap64 (rd l0 (ji48)))))) = true := decide_eq_true c51
                                clear c51
                                simp only [Option.some.injEq, Prod.mk.injEq] at H
                                obtain ⟨rfl, rfl, rfl, rfl⟩ := H
                                have p103 : 0 ≤ (x11_2 : Int) := of_decide_eq_true (by first | (with_reducible assumption) | assumption)
                                have q103 : x11_2 < (l0.length : Int) := of_decide_eq_true (by first | (with_reducible assumption) | assumption)
                                obtain ⟨ad103, e103, hx103_0⟩ := Kd.at_int HR0.out x11_2 p103 q103
                                cases e103
                                replace hx103_0 := (HB.out.cell (World.block_lt_of_cell? w _ hx103_0)).trans hx103_0
                                replace p103 := eq_true p103
                                replace q103 := eq_true q103
                                have p105 : 0 ≤ ((ji48) : Int) := of_decide_eq_true (by first | (with_reducible assumption) | assumption)
                                have q105 : (ji48) < (l0.length : Int) := of_decide_eq_true (by first | (with_reducible assumption) | assumption)
                                obtain ⟨ad105, e105, hx105_0⟩ := Kd.at_int HR0.out (ji48) p105 q105
                                obtain rfl : ad103 = ad105 := (by injection e105)
                                replace hx105_0 := (HB.out.cell (World.block_lt_of_cell? w _ hx105_0)).trans hx105_0
                                replace p105 := eq_true p105
                                replace q105 := eq_true q105
                                have hnb52 := NB101_102.out
                                have hnc52 := NB102_101.out
                                have hcz53_0 : wr.cell? ⟨gb101, 0, none⟩ = some (.int .i64 x102000_2) := (blk_cell BK101.out 0).trans rfl
                                have hcz53_1 : wr.cell? ⟨gb101, 1, none⟩ = some (.int .i64 x102001_2) := (blk_cell BK101.out 1).trans rfl
                                have hfz53_0 := blk_frozen BK101.out 0
                                have hfz53_1 := blk_frozen BK101.out 1
                                go_wp2
                                refine bodyPost_ret (results_list (rs := [.tmp 4, .tmp 5, .cell 6 31]) rfl (by simp) (.tmp (.tmp (.cell gb101 31 #[.int .i64 150, .int .i64 x11_2] (0, 0) _ rfl (by (with_reducible repeat (first | refine blk_drewN ?_ _ | refine blk_drew ?_ | refine blk_alloc ?_ _)); refine blk_put (cs := #[.int .i64 150, .int .i64 x102001_2]) ?_ 1 _ rfl; (with_reducible repeat (first | refine blk_drewN ?_ _ | refine blk_drew ?_ | refine blk_alloc ?_ _)); refine blk_put (cs := #[.int .i64 x102000_2, .int .i64 x102001_2]) ?_ 0 _ rfl; (with_reducible repeat (first | refine blk_drewN ?_ _ | refine blk_drew ?_ | refine blk_alloc ?_ _)); exact BK101.out) Try.underlying31 rfl (by kernel_rfl) .nil)))) rfl ?_
                                exact ⟨by first | rfl | (simp [errW_none, errW_some] <;> rfl) | (simp only [← hji48]; first | rfl | (simp [errW_none, errW_some] <;> rfl)) | (simp [*, errW_none, errW_some] <;> rfl), by repeat (first | (with_reducible first | exact HB.out | apply below_alloc | apply pw_below_drewN | apply below_drew1 | refine below_set ?_ GE101.out | refine below_set ?_ GE102.out) | exact HB.out)⟩
                              · rw [if_neg c51] at H
                                have c51b0 : decide (x10_2 ≤ (wrap64 ((wrap64 (256 * (wrap64 ((wrap64 (rd l0 x11_2)) - 192)))) + (wrap64 (rd l0 (ji48)))))) = false := decide_eq_false c51
                                clear c51
                                by_cases c54 : x9_2 < 0
                                · rw [if_pos c54] at H
                                  have c54b0 : decide (x9_2 < 0) = true := decide_eq_true c54
                                  clear c54
                                  have H' := Aside0.mk H
                                  clear H
                                  have p103 : 0 ≤ (x11_2 : Int) := of_decide_eq_true (by first | (with_reducible assumption) | assumption)
                                  have q103 : x11_2 < (l0.length : Int) := of_decide_eq_true (by first | (with_reducible assumption) | assumption)
                                  obtain ⟨ad103, e103, hx103_0⟩ := Kd.at_int HR0.out x11_2 p103 q103
                                  cases e103
                                  replace hx103_0 := (HB.out.cell (World.block_lt_of_cell? w _ hx103_0)).trans hx103_0
                                  replace p103 := eq_true p103
                                  replace q103 := eq_true q103
                                  have p105 : 0 ≤ ((ji48) : Int) := of_decide_eq_true (by first | (with_reducible assumption) | assumption)
                                  have q105 : (ji48) < (l0.length : Int) := of_decide_eq_true (by first | (with_reducible assumption) | assumption)
                                  obtain ⟨ad105, e105, hx105_0⟩ := Kd.at_int HR0.out (ji48) p105 q105
                                  obtain rfl : ad103 = ad105 := (by injection e105)
                                  replace hx105_0 := (HB.out.cell (World.block_lt_of_cell? w _ hx105_0)).trans hx105_0
                                  replace p105 := eq_true p105
                                  replace q105 := eq_true q105
                                  go_wp2
                                  go_roundg k2
                                  case measure => have := HJ2.out; have := HK2.out; omega
                                  case rel => exact ⟨(x8_2), (wrap64 (x11_2 + 2)), (wrap64 ((wrap64 (256 * (wrap64 ((wrap64 (rd l0 x11_2)) - 192)))) + (wrap64 (rd l0 (ji48))))), (wrap64 ((wrap64 (256 * (wrap64 ((wrap64 (rd l0 x11_2)) - 192)))) + (wrap64 (rd l0 (ji48))))), (x102000_2), (x102001_2), (by first | rfl | (simp; done) | (simp [*]; done)), (by first | rfl | (simp; done) | (simp [*]; done)), (by first | rfl | (simp; done) | (simp only [← hji48] <;> (first | rfl | simp)) | (simp [*]; done)), (by first | rfl | (simp; done) | (simp only [← hji48] <;> (first | rfl | simp)) | (simp [*]; done)), H', ⟨by have := HJ2.out; have := HK2.out; omega⟩, ⟨by (with_reducible repeat (first | refine blk_drewN ?_ _ | refine blk_drew ?_ | refine blk_alloc ?_ _)); exact BK101.out⟩, ⟨by (with_reducible repeat (first | refine blk_drewN ?_ _ | refine blk_drew ?_ | refine blk_alloc ?_ _)); exact BK102.out⟩, ⟨by repeat (first | (with_reducible first | exact HB.out | apply below_alloc | apply pw_below_drewN | apply below_drew1 | refine below_set ?_ GE101.out | refine below_set ?_ GE102.out) | exact HB.out)⟩⟩
                                · rw [if_neg c54] at H
                                  have c54b0 : decide (x9_2 < 0) = false := decide_eq_false c54
                                  clear c54
                                  have H' := Aside0.mk H
                                  clear H
                                  have p103 : 0 ≤ (x11_2 : Int) := of_decide_eq_true (by first | (with_reducible assumption) | assumption)
                                  have q103 : x11_2 < (l0.length : Int) := of_decide_eq_true (by first | (with_reducible assumption) | assumption)
                                  obtain ⟨ad103, e103, hx103_0⟩ := Kd.at_int HR0.out x11_2 p103 q103
                                  cases e103
                                  replace hx103_0 := (HB.out.cell (World.block_lt_of_cell? w _ hx103_0)).trans hx103_0
                                  replace p103 := eq_true p103
                                  replace q103 := eq_true q103
                                  have p105 : 0 ≤ ((ji48) : Int) := of_decide_eq_true (by first | (with_reducible assumption) | assumption)
                                  have q105 : (ji48) < (l0.length : Int) := of_decide_eq_true (by first | (with_reducible assumption) | assumption)
                                  obtain ⟨ad105, e105, hx105_0⟩ := Kd.at_int HR0.out (ji48) p105 q105
                                  obtain rfl : ad103 = ad105 := (by injection e105)
                                  replace hx105_0 := (HB.out.cell (World.block_lt_of_cell? w _ hx105_0)).trans hx105_0
                                  replace p105 := eq_true p105
                                  replace q105 := eq_true q105
                                  go_wp2
                                  go_roundg k2
                                  case measure => have := HJ2.out; have := HK2.out; omega
                                  case rel => exact ⟨(x8_2), (x9_2), (wrap64 ((wrap64 (256 * (wrap64 ((wrap64 (rd l0 x11_2)) - 192)))) + (wrap64 (rd l0 (ji48))))), (wrap64 ((wrap64 (256 * (wrap64 ((wrap64 (rd l0 x11_2)) - 192)))) + (wrap64 (rd l0 (ji48))))), (x102000_2), (x102001_2), (by first | rfl | (simp; done) | (simp [*]; done)), (by first | rfl | (simp; done) | (simp [*]; done)), (by first | rfl | (simp; done) | (simp only [← hji48] <;> (first | rfl | simp)) | (simp [*]; done)), (by first | rfl | (simp; done) | (simp only [← hji48] <;> (first | rfl | simp)) | (simp [*]; done)), H', ⟨by have := HJ2.out; have := HK2.out; omega⟩, ⟨by (with_reducible repeat (first | refine blk_drewN ?_ _ | refine blk_drew ?_ | refine blk_alloc ?_ _)); exact BK101.out⟩, ⟨by (with_reducible repeat (first | refine blk_drewN ?_ _ | refine blk_drew ?_ | refine blk_alloc ?_ _)); exact BK102.out⟩, ⟨by repeat (first | (with_reducible first | exact HB.out | apply below_alloc | apply pw_below_drewN | apply below_drew1 | refine below_set ?_ GE101.out | refine below_set ?_ GE102.out) | exact HB.out)⟩⟩
                            · rw [if_neg c50] at H
                              exact absurd H (by simp)
                          · rw [if_neg c49] at H
                            exact absurd H (by simp)
                · rw [if_neg c16] at H
                  exact absurd H (by simp)
              · rw [if_neg c15] at H
                exact absurd H (by simp)

end Go.Proofs.Ytjjbhpbmfpodeaa.X
end
section
namespace Go.Proofs.Ytjjbhpbmfpodeaa.PB
open Go.RowKit Go.Proofs.Ytjjbhpbmfpodeaa.X Go.Proofs.YtjjbhpbmfpodeaaW.PrintWords Go.Proofs.YtjjbhpbmfpodeaaW.PrintLast
set_option linter.unusedVariables false
set_option linter.unusedSimpArgs false

theorem str_append (a b : List Int) : strOfNums a ++ strOfNums b = strOfNums (a ++ b) := by
  apply ByteArray.ext
  rw [ByteArray.data_append]
  unfold strOfNums
  simp
theorem str_zero : (⟨#[0]⟩ : ByteArray) = strOfNums [0] := by decide

theorem ref_loop {l : List Int} (hb : bytesB l = true) (hl : l.length ≤ 140737488351232) {at_ : Int} (ha0 : 0 ≤ at_) (ha1 : at_ ≤ l.length) : ∀ (M : Nat) (out : List Int) (part i behind : Int),
    out.length ≤ 254 → 0 ≤ i → i ≤ l.length → 0 ≤ part → part ≤ l.length → part.toNat + (256 - out.length) ≤ M →
    ∃ r, (∀ k, M < k → wire_Read.l0 k l at_ out part i behind = some r) ∧ (∀ k, M < k → ostiaryref05_Read.l0 k l at_ (strOfNums out) behind part i 4 (l.length : Int) = some r) := by
  intro M
  induction M with
  | zero => intro out part i behind _ _ _ _ _ _; omega
  | succ M ih =>
    intro out part i behind hol h0 h1 hp0 hp1 hM
    by_cases hend : i = l.length
    · refine ⟨(⟨#[]⟩, 0, 4, (l.length : Int)), fun k hk => ?_, fun k hk => ?_⟩
      · obtain ⟨k, rfl⟩ : ∃ m, k = m + 1 := ⟨k - 1, by omega⟩
        rw [wire_Read.l0, if_pos (by omega)]
      · obtain ⟨k, rfl⟩ : ∃ m, k = m + 1 := ⟨k - 1, by omega⟩
        rw [ostiaryref05_Read.l0, if_pos (by omega)]
    have hrb := rd_byte hb i
    have hw : wrap64 (rd l i) = rd l i := w64 (by omega) (by omega)
    have hwi : wrap64 (i + 1) = i + 1 := w64 (by omega) (by omega)
    have hso : (strOfNums out).size = out.length := strOfNums_size out
    by_cases hz : rd l i = 0
    · refine ⟨(strOfNums (out ++ [0]), (if behind < 0 then i + 1 else behind), 0, 0), fun k hk => ?_, fun k hk => ?_⟩
      · obtain ⟨k, rfl⟩ : ∃ m, k = m + 1 := ⟨k - 1, by omega⟩
        rw [wire_Read.l0, if_neg (by omega), if_pos h0, if_pos (by omega), hw, if_pos hz, hwi]
        by_cases hbe : behind < 0
        · rw [if_pos hbe, if_pos hbe, if_pos (by omega)]
        · rw [if_neg hbe, if_neg hbe, if_pos (by omega)]
      · obtain ⟨k, rfl⟩ : ∃ m, k = m + 1 := ⟨k - 1, by omega⟩
        rw [ostiaryref05_Read.l0, if_neg (by omega), if_pos h0, if_pos (by omega), hw, if_pos hz, hwi, str_zero, str_append, hso]
        by_cases hbe : behind < 0
        · rw [if_pos hbe, if_pos hbe, if_pos (by omega)]
        · rw [if_neg hbe, if_neg hbe, if_pos (by omega)]
    by_cases hptr : rd l i ≥ 192
    · by_cases hsh : (l.length : Int) < i + 2
      · refine ⟨(⟨#[]⟩, 0, 4, (l.length : Int)), fun k hk => ?_, fun k hk => ?_⟩
        · obtain ⟨k, rfl⟩ : ∃ m, k = m + 1 := ⟨k - 1, by omega⟩
          rw [wire_Read.l0, if_neg (by omega), if_pos h0, if_pos (by omega), hw, if_neg hz, if_pos hptr, get16_of (get_short hb (.inl rfl) (by omega) h0 h1 hsh)]
          rfl
        · obtain ⟨k, rfl⟩ : ∃ m, k = m + 1 := ⟨k - 1, by omega⟩
          rw [ostiaryref05_Read.l0, if_neg (by omega), if_pos h0, if_pos (by omega), hw, if_neg hz, if_neg (by omega), if_neg (by omega), hwi, if_pos (by omega)]
      have hg := get16_of (get_ok (a := i) (s := 2) hb (.inl rfl) (by omega) h0 (by omega))
      have hrb2 := rd_byte hb (i + 1)
      have hn : beVal ((l.drop i.toNat).take (2 : Int).toNat) = 256 * rd l i + rd l (i + 1) := by
        rw [take_two l i h0 (by omega)]
        simp only [beVal, List.foldl_cons, List.foldl_nil]
        omega
      rw [hn] at hg
      have hand := and14 (n := 256 * rd l i + rd l (i + 1)) (by omega) (by omega)
      obtain ⟨t, ht⟩ : ∃ t, t = 256 * (rd l i - 192) + rd l (i + 1) := ⟨_, rfl⟩
      have hand2 : (256 * rd l i + rd l (i + 1)) % 16384 = t := by omega
      rw [hand2] at hand
      have hwt : wrap64 (wrap64 (256 * wrap64 (rd l i - 192)) + wrap64 (rd l (i + 1))) = t := by
        rw [w64 (x := rd l i - 192) (by omega) (by omega), w64 (x := 256 * (rd l i - 192)) (by omega) (by omega), w64 (x := rd l (i + 1)) (by omega) (by omega), ← ht, w64 (by omega) (by omega)]
      have hw2 : wrap64 (i + 2) = i + 2 := w64 (by omega) (by omega)
      by_cases hloop : t ≥ part
      · refine ⟨(⟨#[]⟩, 0, 150, i), fun k hk => ?_, fun k hk => ?_⟩
        · obtain ⟨k, rfl⟩ : ∃ m, k = m + 1 := ⟨k - 1, by omega⟩
          rw [wire_Read.l0, if_neg (by omega), if_pos h0, if_pos (by omega), hw, if_neg hz, if_pos hptr, hg]
          simp only [Option.bind_some]
          rw [if_pos trivial, hand, if_pos hloop]
        · obtain ⟨k, rfl⟩ : ∃ m, k = m + 1 := ⟨k - 1, by omega⟩
          rw [ostiaryref05_Read.l0, if_neg (by omega), if_pos h0, if_pos (by omega), hw, if_neg hz, if_neg (by omega), if_neg (by omega), hwi, if_neg (by omega), if_pos (by omega), if_pos (by omega)]
          rw [hw] at *
          rw [hwt, if_pos hloop]
      obtain ⟨r, hr, hr2⟩ := ih out t t (if behind < 0 then i + 2 else behind) hol (by omega) (by omega) (by omega) (by omega) (by omega)
      refine ⟨r, fun k hk => ?_, fun k hk => ?_⟩
      · obtain ⟨k, rfl⟩ : ∃ m, k = m + 1 := ⟨k - 1, by omega⟩
        rw [wire_Read.l0, if_neg (by omega), if_pos h0, if_pos (by omega), hw, if_neg hz, if_pos hptr, hg]
        simp only [Option.bind_some]
        rw [if_pos trivial, hand, if_neg hloop]
        have := hr k (by omega)
        by_cases hbe : behind < 0
        · rw [if_pos hbe] at this ⊢; exact this
        · rw [if_neg hbe] at this ⊢; exact this
      · obtain ⟨k, rfl⟩ : ∃ m, k = m + 1 := ⟨k - 1, by omega⟩
        rw [ostiaryref05_Read.l0, if_neg (by omega), if_pos h0, if_pos (by omega), hw, if_neg hz, if_neg (by omega), if_neg (by omega), hwi, if_neg (by omega), if_pos (by omega), if_pos (by omega)]
        rw [hwt, if_neg hloop, hw2]
        have := hr2 k (by omega)
        by_cases hbe : behind < 0
        · rw [if_pos hbe] at this ⊢; exact this
        · rw [if_neg hbe] at this ⊢; exact this
    by_cases h63 : rd l i > 63
    · refine ⟨(⟨#[]⟩, 0, 4, i), fun k hk => ?_, fun k hk => ?_⟩
      · obtain ⟨k, rfl⟩ : ∃ m, k = m + 1 := ⟨k - 1, by omega⟩
        rw [wire_Read.l0, if_neg (by omega), if_pos h0, if_pos (by omega), hw, if_neg hz, if_neg hptr, if_pos h63]
      · obtain ⟨k, rfl⟩ : ∃ m, k = m + 1 := ⟨k - 1, by omega⟩
        rw [ostiaryref05_Read.l0, if_neg (by omega), if_pos h0, if_pos (by omega), hw, if_neg hz, if_neg (by omega), if_pos (by omega)]
    have hw2 : wrap64 (rd l i + 1) = rd l i + 1 := w64 (by omega) (by omega)
    have hw3 : wrap64 (i + 1 + rd l i) = i + 1 + rd l i := w64 (by omega) (by omega)
    by_cases hsh : (l.length : Int) < i + (rd l i + 1)
    · refine ⟨(⟨#[]⟩, 0, 4, (l.length : Int)), fun k hk => ?_, fun k hk => ?_⟩
      · obtain ⟨k, rfl⟩ : ∃ m, k = m + 2 := ⟨k - 2, by omega⟩
        rw [wire_Read.l0, if_neg (by omega), if_pos h0, if_pos (by omega), hw, if_neg hz, if_neg hptr, if_neg h63, hw2, bytes_short hl h0 h1 (by omega) hsh]
        rfl
      · obtain ⟨k, rfl⟩ : ∃ m, k = m + 1 := ⟨k - 1, by omega⟩
        rw [ostiaryref05_Read.l0, if_neg (by omega), if_pos h0, if_pos (by omega), hw, if_neg hz, if_pos (by omega), hwi, hw3, if_pos (by omega)]
    have hbk : ∀ k, octet_Bytes.f (k + 1) l i (rd l i + 1) = _ := fun k => bytes_ok (k := k) hl h0 (by omega) (by omega)
    obtain ⟨lb, hlb⟩ : ∃ lb, lb = (l.drop i.toNat).take (rd l i + 1).toNat := ⟨_, rfl⟩
    rw [← hlb] at hbk
    have hlbl : (lb.length : Int) = rd l i + 1 := by rw [hlb]; simp; omega
    have hlb2 : (l.take (i + 1 + rd l i).toNat).drop i.toNat = lb := by
      rw [List.drop_take, hlb]; congr 1; omega
    by_cases hlong : ((out ++ lb).length : Int) > 254
    · refine ⟨(⟨#[]⟩, 0, 3, at_), fun k hk => ?_, fun k hk => ?_⟩
      · obtain ⟨k, rfl⟩ : ∃ m, k = m + 2 := ⟨k - 2, by omega⟩
        rw [wire_Read.l0, if_neg (by omega), if_pos h0, if_pos (by omega), hw, if_neg hz, if_neg hptr, if_neg h63, hw2, hbk]
        simp only [Option.bind_some]
        rw [if_pos trivial, if_pos (by omega), if_pos hlong]
      · obtain ⟨k, rfl⟩ : ∃ m, k = m + 1 := ⟨k - 1, by omega⟩
        rw [ostiaryref05_Read.l0, if_neg (by omega), if_pos h0, if_pos (by omega), hw, if_neg hz, if_pos (by omega), hwi, hw3, if_neg (by omega), if_pos (by omega), if_pos (by omega), hlb2, str_append, hso, strOfNums_size, strOfNums_size, if_pos (by omega), if_pos hlong]
    simp only [List.length_append] at hlong
    obtain ⟨r, hr, hr2⟩ := ih (out ++ lb) part (i + (rd l i + 1)) behind (by simp; omega) (by omega) (by omega) hp0 hp1 (by simp; omega)
    refine ⟨r, fun k hk => ?_, fun k hk => ?_⟩
    · obtain ⟨k, rfl⟩ : ∃ m, k = m + 2 := ⟨k - 2, by omega⟩
      rw [wire_Read.l0, if_neg (by omega), if_pos h0, if_pos (by omega), hw, if_neg hz, if_neg hptr, if_neg h63, hw2, hbk]
      simp only [Option.bind_some]
      rw [if_pos trivial, if_pos (by omega), if_neg (by simp only [List.length_append]; omega)]
      exact hr _ (by omega)
    · obtain ⟨k, rfl⟩ : ∃ m, k = m + 1 := ⟨k - 1, by omega⟩
      rw [ostiaryref05_Read.l0, if_neg (by omega), if_pos h0, if_pos (by omega), hw, if_neg hz, if_pos (by omega), hwi, hw3, if_neg (by omega), if_pos (by omega), if_pos (by omega), hlb2, str_append, hso, strOfNums_size, strOfNums_size, if_pos (by omega), if_neg (by simp only [List.length_append]; omega)]
      have := hr2 k (by omega)
      rw [show i + (rd l i + 1) = i + 1 + rd l i by omega] at this
      exact this

/-- wire.Read and the document's tell the same. -/
theorem read_same {l : List Int} (hb : bytesB l = true) (hl : l.length ≤ 140737488351232) (a : Int) :
    ∃ r, (∀ k, a.toNat + 257 < k → wire_Read.f k l a = some r) ∧ (∀ k, a.toNat + 257 < k → ostiaryref05_Read.f k l a = some r) := by
  by_cases h0 : a < 0
  · refine ⟨(⟨#[]⟩, 0, 5, 0), fun k hk => ?_, fun k hk => ?_⟩
    · obtain ⟨k, rfl⟩ : ∃ m, k = m + 1 := ⟨k - 1, by omega⟩
      unfold wire_Read.f
      rw [if_pos h0, wire_Read.j0, if_pos rfl]
    · obtain ⟨k, rfl⟩ : ∃ m, k = m + 1 := ⟨k - 1, by omega⟩
      unfold ostiaryref05_Read.f
      rw [if_pos h0, ostiaryref05_Read.j0, if_pos rfl]
  by_cases h1 : a > l.length
  · refine ⟨(⟨#[]⟩, 0, 5, 0), fun k hk => ?_, fun k hk => ?_⟩
    · obtain ⟨k, rfl⟩ : ∃ m, k = m + 1 := ⟨k - 1, by omega⟩
      unfold wire_Read.f
      rw [if_neg h0, decide_eq_true h1, wire_Read.j0, if_pos rfl]
    · obtain ⟨k, rfl⟩ : ∃ m, k = m + 1 := ⟨k - 1, by omega⟩
      unfold ostiaryref05_Read.f
      rw [if_neg h0, decide_eq_true h1, ostiaryref05_Read.j0, if_pos rfl]
  obtain ⟨r, hr, hr2⟩ := ref_loop hb hl (by omega : 0 ≤ a) (by omega) (a.toNat + 256) [] a a (-1) (by simp) (by omega) (by omega) (by omega) (by omega) (by simp)
  refine ⟨r, fun k hk => ?_, fun k hk => ?_⟩
  · obtain ⟨k, rfl⟩ : ∃ m, k = m + 1 := ⟨k - 1, by omega⟩
    unfold wire_Read.f
    rw [if_neg h0, decide_eq_false (by omega), wire_Read.j0, if_neg (by decide)]
    exact hr k (by omega)
  · obtain ⟨k, rfl⟩ : ∃ m, k = m + 1 := ⟨k - 1, by omega⟩
    unfold ostiaryref05_Read.f
    rw [if_neg h0, decide_eq_false (by omega), ostiaryref05_Read.j0, if_neg (by decide)]
    exact hr2 k (by omega)
end Go.Proofs.Ytjjbhpbmfpodeaa.PB
end
section
namespace Go.Proofs.Ytjjbhpbmfpodeaa.PB
open Go.RowKit Go.Proofs.Ytjjbhpbmfpodeaa.X Go.Proofs.YtjjbhpbmfpodeaaW.PrintWords Go.Proofs.YtjjbhpbmfpodeaaW.PrintLast
set_option linter.unusedVariables false
set_option linter.unusedSimpArgs false

theorem lowI_idem (c : Int) : lowI (lowI c) = lowI c := by unfold lowI; split <;> (try split) <;> omega
theorem lowI_small {c : Int} (h : c ≤ 63) : lowI c = c := by unfold lowI; rw [if_neg (by omega)]
theorem lowL_idem (l : List Int) : lowL (lowL l) = lowL l := by
  unfold lowL; rw [List.map_map]; exact List.map_congr_left fun x _ => lowI_idem x
theorem lowL_append (a b : List Int) : lowL (a ++ b) = lowL a ++ lowL b := List.map_append
theorem lowL_length (a : List Int) : (lowL a).length = a.length := List.length_map _
theorem lowL_bytes {l : List Int} (h : bytesB l = true) : bytesB (lowL l) = true := by
  unfold bytesB lowL
  rw [List.all_eq_true]
  intro x hx
  obtain ⟨y, hy, rfl⟩ := List.mem_map.1 hx
  have := bytesB_mem h hy
  unfold lowI
  simp
  split <;> omega
theorem lowL_lab {a : List Int} (h : Lab a) : Lab (lowL a) := by
  induction h with
  | nil => exact .nil
  | cons c x r h1 h2 h3 _ ih =>
    have e : lowL (c :: (x ++ r)) = c :: (lowL x ++ lowL r) := by
      show lowI c :: lowL (x ++ r) = _
      rw [lowI_small h2, lowL_append]
    rw [e]
    exact .cons c _ _ h1 h2 (by rw [lowL_length]; exact h3) ih

def lowS (s : ByteArray) : ByteArray := strOfNums (lowL (bytesOf s))
theorem lowS_str {l : List Int} (h : bytesB l = true) : lowS (strOfNums l) = strOfNums (lowL l) := by unfold lowS; rw [str_bytes h]
theorem lowS_size (s : ByteArray) : (lowS s).size = s.size := by unfold lowS; rw [strOfNums_size, lowL_length, bytesOf_len]
theorem lowS_idem (s : ByteArray) : lowS (lowS s) = lowS s := by
  unfold lowS; rw [str_bytes (lowL_bytes (bytesB_bytesOf s)), lowL_idem]
theorem lowS_check {n : ByteArray} (h : name_Check.f n = some 0) : name_Check.f (lowS n) = some 0 := by
  obtain ⟨a, h1, h2, h3, rfl⟩ := check_form h
  rw [lowS_str (bytesB_append.2 ⟨h2, by decide⟩), lowL_append]
  exact check_ok (lowL_lab h1) (lowL_bytes h2) (by rw [lowL_length]; exact h3)
theorem lower_f {s : ByteArray} (h : s.size ≤ 100000000000) : name_Lower.f s = some (lowS s) := by unfold name_Lower.f; rw [if_pos h]; rfl

/-- The name that some bytes begin with is found. -/
theorem firstL_lab {q : List Int} (hq : Lab q) : ∀ (k : Nat) (p rest : List Int) (s : ByteArray), q.length < k → Lab p → bytesB (p ++ q) = true → bytesB rest = true → (p ++ q).length ≤ 254 → s = strOfNums (p ++ q ++ [0] ++ rest) → firstL k s p.length = some ((p ++ q).length + 1 : Int) := by
  induction hq with
  | nil =>
    intro k p rest s hk hp hb hr hl hs
    cases k with
    | zero => omega
    | succ k =>
      have hbb : bytesB (p ++ [] ++ [0] ++ rest) = true := bytesB_append.2 ⟨bytesB_append.2 ⟨hb, by decide⟩, hr⟩
      have hsz : s.size = p.length + 1 + rest.length := by rw [hs, strOfNums_size]; simp; omega
      have hbt : bt s p.length = 0 := by
        rw [hs, bt_str hbb]; unfold rd
        simp
      have he : s.extract 0 ((p.length : Int) + 1).toNat = strOfNums (p ++ [0]) := by
        rw [hs, str_extract]; congr 1
        have e3 : p ++ [] ++ [0] ++ rest = (p ++ [0]) ++ rest := by simp
        rw [show ((p.length : Int) + 1).toNat - 0 = (p ++ [0]).length by simp, e3, List.drop_zero, List.take_left]
      simp only [List.append_nil] at hb hl ⊢
      rw [firstL, if_pos ⟨by omega, by omega⟩, if_pos hbt, he, if_pos (check_ok hp hb hl)]
  | cons c x r h1 h2 h3 hr' ih =>
    intro k p rest s hk hp hb hr hl hs
    cases k with
    | zero => omega
    | succ k =>
      have hbb : bytesB (p ++ (c :: (x ++ r)) ++ [0] ++ rest) = true := bytesB_append.2 ⟨bytesB_append.2 ⟨hb, by decide⟩, hr⟩
      have hsz : s.size = p.length + 1 + x.length + r.length + 1 + rest.length := by rw [hs, strOfNums_size]; simp; omega
      have hbt : bt s p.length = c := by
        rw [hs, bt_str hbb]; unfold rd
        simp
      have hl' := hl
      simp only [List.length_append, List.length_cons] at hl'
      rw [firstL, if_pos ⟨by omega, by omega⟩, if_neg (by omega)]
      have e1 : p ++ (c :: (x ++ r)) = (p ++ (c :: x)) ++ r := by simp
      have := ih k (p ++ (c :: x)) rest s (by simp only [List.length_cons, List.length_append] at hk; omega) (hp.append (Lab.one h1 h2 h3)) (by rw [← e1]; exact hb) hr (by rw [← e1]; exact hl) (by rw [← e1]; exact hs)
      rw [← e1] at this
      rw [hbt, ← this]
      congr 1
      simp; omega
theorem firstN_lab {a rest : List Int} (ha : Lab a) (hb : bytesB a = true) (hr : bytesB rest = true) (hl : a.length ≤ 254) : firstN (strOfNums (a ++ [0] ++ rest)) = some (a.length + 1 : Int) := by
  have := firstL_lab ha 256 [] rest _ (by omega) .nil hb hr hl rfl
  exact this
theorem firstL_bound {s : ByteArray} : ∀ (k : Nat) (i : Int) {m : Int}, 0 ≤ i → firstL k s i = some m → 1 ≤ m ∧ m ≤ s.size
  | 0, i, m, _, h => by cases h
  | k + 1, i, m, h0, h => by
    rw [firstL] at h
    have hb := bt_range s i
    by_cases h1 : i < (s.size : Int) ∧ i < 255
    · rw [if_pos h1] at h
      by_cases h2 : bt s i = 0
      · rw [if_pos h2] at h
        by_cases h3 : name_Check.f (s.extract 0 (i + 1).toNat) = some 0
        · rw [if_pos h3] at h; injection h with h; omega
        · rw [if_neg h3] at h; cases h
      · rw [if_neg h2] at h; exact firstL_bound k _ (by omega) h
    · rw [if_neg h1] at h; cases h
theorem firstN_bound {s : ByteArray} {m : Int} (h : firstN s = some m) : 1 ≤ m ∧ m ≤ s.size := firstL_bound 256 0 (by omega) h

/-- A name ahead of any bytes is what first tells of them. -/
theorem firstN_name {n rest : ByteArray} (h : name_Check.f n = some 0) : firstN (n ++ rest) = some (n.size : Int) := by
  obtain ⟨a, h1, h2, h3, rfl⟩ := check_form h
  have e : strOfNums (a ++ [0]) ++ rest = strOfNums (a ++ [0] ++ bytesOf rest) := by
    rw [← str_append (a ++ [0]), str_of_bytes]
  rw [e, firstN_lab h1 h2 (bytesB_bytesOf rest) h3, strOfNums_size]
  simp

def cat (l : List S124) : ByteArray := l.foldr (fun x r => x.f0 ++ r) ⟨#[]⟩
def lowP (p : S124) : S124 := if p.f1 = true then ⟨lowS p.f0, true⟩ else p
theorem cat_cons (x : S124) (l : List S124) : cat (x :: l) = x.f0 ++ cat l := rfl
theorem lowP_size (p : S124) : (lowP p).f0.size = p.f0.size := by unfold lowP; split; exact lowS_size _; rfl
theorem cat_low_size (l : List S124) : (cat (l.map lowP)).size = (cat l).size := by
  induction l with
  | nil => rfl
  | cons x l ih => rw [List.map_cons, cat_cons, cat_cons, ByteArray.size_append, ByteArray.size_append, lowP_size, ih]
theorem lowP_idem (p : S124) : lowP (lowP p) = lowP p := by
  unfold lowP
  by_cases h : p.f1 = true
  · rw [if_pos h]; simp only [if_true, lowS_idem]
  · rw [if_neg h, if_neg h]
theorem map_lowP_idem (l : List S124) : (l.map lowP).map lowP = l.map lowP := by
  rw [List.map_map]; exact List.map_congr_left fun x _ => lowP_idem x
theorem ba_empty {s : ByteArray} (h : s.size = 0) : s = ⟨#[]⟩ := by
  apply ByteArray.ext
  exact Array.eq_empty_of_size_eq_zero h
theorem ba_split (s : ByteArray) {n : Nat} (h : n ≤ s.size) : s = s.extract 0 n ++ s.extract n s.size := by
  rw [ByteArray.extract_append_extract, Nat.zero_min, Nat.max_eq_right h, ByteArray.extract_zero_size]
theorem ba_left (a b : ByteArray) {n : Nat} (h : a.size = n) : (a ++ b).extract 0 n = a := by
  subst h
  apply ByteArray.ext
  rw [ByteArray.data_extract, ByteArray.data_append]
  show (a.data ++ b.data).extract 0 a.data.size = a.data
  simp
theorem ba_right (a b : ByteArray) {n : Nat} (h : a.size = n) : (a ++ b).extract n (a ++ b).size = b := by
  subst h
  apply ByteArray.ext
  rw [ByteArray.data_extract, ByteArray.size_append, ByteArray.data_append]
  show (a.data ++ b.data).extract a.data.size (a.data.size + b.data.size) = b.data
  rw [Array.extract_append_right]
  exact Array.extract_size
theorem ba_app0 (s : ByteArray) : s ++ (⟨#[]⟩ : ByteArray) = s := ByteArray.append_empty
theorem ba_0app (s : ByteArray) : (⟨#[]⟩ : ByteArray) ++ s = s := ByteArray.empty_append

/-- Data with their names in lower form fall into the same parts. -/
theorem split_low : ∀ (ps : List S119) (s : ByteArray) (out o : List S124) (r : ByteArray), (∀ p ∈ ps, (p.f2 = true → p.f1 = false) ∧ 0 ≤ p.f0) → splitGo ps s out = some (o, r) →
    ∃ l, o = out ++ l ∧ s = cat l ++ r ∧ (r.size = 0 → ∀ out', splitGo ps (cat (l.map lowP)) out' = some (out' ++ l.map lowP, ⟨#[]⟩))
  | [], s, out, o, r, _, h => by
    rw [splitGo] at h
    injection h with h
    injection h with h1 h2
    subst h1 h2
    refine ⟨[], by simp, (ba_0app _).symm, fun _ out' => ?_⟩
    simp [splitGo, cat]
  | p :: ps, s, out, o, r, hp, h => by
    have hps : ∀ q ∈ ps, (q.f2 = true → q.f1 = false) ∧ 0 ≤ q.f0 := fun q hq => hp q (List.mem_cons_of_mem _ hq)
    have hp1 := hp p List.mem_cons_self
    rw [splitGo] at h
    by_cases f2 : p.f2 = true
    · have f1 := hp1.1 f2
      rw [if_pos f2] at h
      by_cases ht : textsB s = true
      · rw [if_pos ht] at h
        simp only [] at h
        obtain ⟨l, rfl, e2, e3⟩ := split_low ps _ _ _ _ hps h
        have hx : s.extract (s.size : Int).toNat s.size = ⟨#[]⟩ := ba_empty (by rw [ByteArray.size_extract]; simp)
        have hy : s.extract 0 (s.size : Int).toNat = s := ByteArray.extract_zero_size
        rw [hx] at e2
        have hz := congrArg ByteArray.size e2
        rw [ByteArray.size_append] at hz
        have hz : (cat l).size = 0 := by have : ((⟨#[]⟩ : ByteArray)).size = 0 := rfl; omega
        have hr0 : r = ⟨#[]⟩ := by rw [ba_empty hz, ba_0app] at e2; exact e2.symm
        have hz2 : cat (l.map lowP) = ⟨#[]⟩ := ba_empty (by rw [cat_low_size]; exact hz)
        refine ⟨⟨s.extract 0 (s.size : Int).toNat, p.f1⟩ :: l, by simp, ?_, fun hr out' => ?_⟩
        · rw [cat_cons, ba_empty hz, hy, hr0, ba_app0, ba_app0]
        · have e4 := e3 hr (out' ++ [⟨s, p.f1⟩])
          rw [hz2] at e4
          have e5 : lowP ⟨s.extract 0 (s.size : Int).toNat, p.f1⟩ = ⟨s, p.f1⟩ := by unfold lowP; rw [hy, f1]; rfl
          rw [List.map_cons, e5, cat_cons, hz2, splitGo, if_pos f2]
          simp only [ba_app0]
          rw [if_pos ht]
          simp only []
          rw [hx, hy, e4]; simp
      · rw [if_neg ht] at h; cases h
    · rw [if_neg f2] at h
      by_cases f1 : p.f1 = true
      · rw [if_pos f1] at h
        cases hf : firstN s with
        | none => rw [hf] at h; cases h
        | some m =>
          rw [hf] at h
          simp only [] at h
          have hm := firstN_bound hf
          have hc := firstN_check hf
          obtain ⟨l, rfl, e2, e3⟩ := split_low ps _ _ _ _ hps h
          refine ⟨⟨s.extract 0 m.toNat, p.f1⟩ :: l, by simp, ?_, fun hr out' => ?_⟩
          · rw [cat_cons, ByteArray.append_assoc, ← e2]; exact ba_split s (by omega)
          · have e4 := e3 hr (out' ++ [⟨lowS (s.extract 0 m.toNat), true⟩])
            have e5 : lowP ⟨s.extract 0 m.toNat, p.f1⟩ = ⟨lowS (s.extract 0 m.toNat), true⟩ := by unfold lowP; exact if_pos f1
            rw [List.map_cons, e5, cat_cons, splitGo, if_neg f2, if_pos f1, firstN_name (lowS_check hc)]
            simp only [Int.toNat_natCast]
            rw [ba_left _ _ rfl, ba_right _ _ rfl, f1, e4]; simp
      · rw [if_neg f1] at h
        by_cases hs : (s.size : Int) < p.f0
        · rw [if_pos hs] at h; cases h
        · rw [if_neg hs] at h
          simp only [] at h
          obtain ⟨l, rfl, e2, e3⟩ := split_low ps _ _ _ _ hps h
          have hxs : (s.extract 0 p.f0.toNat).size = p.f0.toNat := by rw [ByteArray.size_extract]; omega
          refine ⟨⟨s.extract 0 p.f0.toNat, p.f1⟩ :: l, by simp, ?_, fun hr out' => ?_⟩
          · rw [cat_cons, ByteArray.append_assoc, ← e2]; exact ba_split s (by omega)
          · have e4 := e3 hr (out' ++ [⟨s.extract 0 p.f0.toNat, p.f1⟩])
            have e5 : lowP ⟨s.extract 0 p.f0.toNat, p.f1⟩ = ⟨s.extract 0 p.f0.toNat, p.f1⟩ := by unfold lowP; exact if_neg f1
            rw [List.map_cons, e5, cat_cons, splitGo, if_neg f2, if_neg f1, if_neg (by rw [ByteArray.size_append, hxs]; omega)]
            simp only []
            rw [ba_left _ _ hxs, ba_right _ _ hxs, e4]; simp

/-- Split data are those that Lower puts together. -/
theorem splitR_low {t : Int} {s : ByteArray} (h : (splitR t s).2 = true) : s = cat (splitR t s).1 ∧ splitR t (cat ((splitR t s).1.map lowP)) = ((splitR t s).1.map lowP, true) := by
  unfold splitR at h ⊢
  cases hp : partsL t with
  | none =>
    rw [hp] at h
    have e : lowP ⟨s, false⟩ = ⟨s, false⟩ := rfl
    simp only [List.map_cons, List.map_nil, e, cat_cons]
    have e2 : cat [] = ⟨#[]⟩ := rfl
    rw [e2, ba_app0]
    exact ⟨rfl, rfl⟩
  | some ps =>
    rw [hp] at h
    simp only [] at h ⊢
    have hok := partsL_ok hp
    cases hs : splitGo ps s [] with
    | none => rw [hs] at h; cases h
    | some x =>
      obtain ⟨o, r⟩ := x
      rw [hs] at h
      obtain ⟨l, e1, e2, e3⟩ := split_low ps s [] o r (fun p hp => ⟨(hok.2 p hp).1, (hok.2 p hp).2.1⟩) hs
      have hr : r.size = 0 := of_decide_eq_true h
      rw [List.nil_append] at e1
      subst e1
      simp only [spAns]
      rw [ba_empty hr, ba_app0] at e2
      refine ⟨e2, ?_⟩
      rw [e3 hr [], List.nil_append]
      rfl

/-- What Lower tells. -/
def lowR (t : Int) (s : ByteArray) : ByteArray := if (splitR t s).2 = true then cat ((splitR t s).1.map lowP) else s
theorem lower_loop (l : List S124) (hl : l.length < 1000) : ∀ (k i : Nat) (acc : ByteArray), l.length - i < k → i ≤ l.length → acc.size + (cat (l.drop i)).size ≤ 100000000000 →
    rdata_Lower.l0 k acc l (l.length : Int) (i : Int) = some (acc ++ cat ((l.drop i).map lowP))
  | 0, i, acc, h, _, _ => by omega
  | k + 1, i, acc, h, hi, hs => by
    rw [rdata_Lower.l0]
    by_cases h1 : (i : Int) < (l.length : Int)
    · have hi2 : i < l.length := by omega
      have hd : l.drop i = l[i] :: l.drop (i + 1) := List.drop_eq_getElem_cons hi2
      have hr : rd_T124 l (i : Int) = l[i] := by unfold rd_T124; rw [Int.toNat_natCast, List.getD_eq_getElem?_getD, List.getElem?_eq_getElem hi2]; rfl
      rw [hd, cat_cons, ByteArray.size_append] at hs
      have hw : wrap64 ((i : Int) + 1) = ((i + 1 : Nat) : Int) := by unfold wrap64; omega
      rw [if_pos h1, if_pos (by omega), if_pos h1, hr, hw, hd, List.map_cons, cat_cons]
      by_cases f1 : l[i].f1 = true
      · have e : (lowP l[i]).f0 = lowS l[i].f0 := by unfold lowP; rw [if_pos f1]
        rw [if_pos f1, lower_f (by omega)]
        simp only [Option.bind_some]
        rw [if_pos (by rw [lowS_size]; omega), lower_loop l hl k (i + 1) _ (by omega) (by omega) (by rw [ByteArray.size_append, lowS_size]; omega), e, ByteArray.append_assoc]
      · have e : (lowP l[i]).f0 = l[i].f0 := by unfold lowP; rw [if_neg f1]
        rw [if_neg f1, if_pos (by omega), lower_loop l hl k (i + 1) _ (by omega) (by omega) (by rw [ByteArray.size_append]; omega), e, ByteArray.append_assoc]
    · rw [if_neg h1, List.drop_eq_nil_of_le (by omega)]
      show some acc = some (acc ++ ⟨#[]⟩)
      rw [ba_app0]
theorem splitGo_len : ∀ (ps : List S119) (s : ByteArray) (out o : List S124) (r : ByteArray), splitGo ps s out = some (o, r) → o.length = out.length + ps.length
  | [], s, out, o, r, h => by
    rw [splitGo] at h; injection h with h; injection h with h1 h2; subst h1; simp
  | p :: ps, s, out, o, r, h => by
    rw [splitGo] at h
    split at h
    · cases h
    · have := splitGo_len ps _ _ _ _ h
      simp at this ⊢; omega
theorem splitR_len (t : Int) (s : ByteArray) : (splitR t s).1.length ≤ 3 := by
  unfold splitR
  cases hp : partsL t with
  | none => simp
  | some ps =>
    simp only []
    cases hs : splitGo ps s [] with
    | none => simp [spAns]
    | some x =>
      obtain ⟨o, r⟩ := x
      have := splitGo_len _ _ _ _ _ hs
      have := (partsL_ok hp).1
      simp only [spAns]
      simp at *; omega
theorem lower_f2 {t : Int} {s : ByteArray} (ht : (Lit.int .i64 t).wf = true) (hs : s.size ≤ 100000000000) {k : Nat} (hk : 4 ≤ k) : rdata_Lower.f k t s = some (lowR t s) := by
  have hf : rdata_split.f t s = some (splitR t s) := by unfold rdata_split.f; exact if_pos ⟨ht, hs⟩
  unfold rdata_Lower.f lowR
  rw [hf]
  simp only [Option.bind_some]
  have hn := splitR_len t s
  by_cases h : (splitR t s).2 = true
  · rw [if_pos h, if_pos h]
    have := lower_loop (splitR t s).1 (by omega) k 0 ⟨#[]⟩ (by omega) (by omega) (by
      rw [List.drop_zero, ← (splitR_low h).1]; show 0 + s.size ≤ _; omega)
    rw [Int.ofNat_zero] at this
    rw [this, List.drop_zero, ba_0app]
  · rw [if_neg h, if_neg h]
theorem lowR_size (t : Int) (s : ByteArray) : (lowR t s).size = s.size := by
  unfold lowR
  by_cases h : (splitR t s).2 = true
  · rw [if_pos h, cat_low_size, ← (splitR_low h).1]
  · rw [if_neg h]
theorem splitR_lowR (t : Int) (s : ByteArray) : (splitR t (lowR t s)).2 = (splitR t s).2 := by
  unfold lowR
  by_cases h : (splitR t s).2 = true
  · rw [if_pos h, (splitR_low h).2, h]
  · rw [if_neg h]
theorem lowR_idem (t : Int) (s : ByteArray) : lowR t (lowR t s) = lowR t s := by
  by_cases h : (splitR t s).2 = true
  · have e : lowR t s = cat ((splitR t s).1.map lowP) := by unfold lowR; exact if_pos h
    rw [e]
    unfold lowR
    rw [(splitR_low h).2]
    simp only [if_true, map_lowP_idem]
  · have e : lowR t s = s := by unfold lowR; exact if_neg h
    rw [e, e]
theorem check_lowR (t : Int) (s : ByteArray) (ht : (Lit.int .i64 t).wf = true) (hs : s.size ≤ 100000000000) (k : Nat) : rdata_Check.f k t (lowR t s) = rdata_Check.f k t s := by
  have hj : ∀ b, rdata_Check.j0 k t (lowR t s) b = rdata_Check.j0 k t s b := by
    intro b
    cases k with
    | zero => rfl
    | succ k =>
      have e1 : rdata_split.f t s = some (splitR t s) := by unfold rdata_split.f; exact if_pos ⟨ht, hs⟩
      have e2 : rdata_split.f t (lowR t s) = some (splitR t (lowR t s)) := by unfold rdata_split.f; exact if_pos ⟨ht, by rw [lowR_size]; exact hs⟩
      rw [rdata_Check.j0, rdata_Check.j0, e1, e2, lowR_size]
      simp only [Option.bind_some, splitR_lowR]
  unfold rdata_Check.f
  rw [hj, hj]

def isT (t : Int) : Prop := t = 2 ∨ t = 5 ∨ t = 12 ∨ t = 15
theorem target_yes (k : Nat) {t : Int} {s : ByteArray} (ht : isT t) (hc : rdata_Check.f 1 t s = some 0) :
    ∃ l x, (splitR t s).1 = l ++ [x] ∧ x.f1 = true ∧ name_Check.f x.f0 = some 0 ∧ rdata_Target.f (k + 1) t s = some (x.f0, true) := by
  obtain ⟨_, _, _, h4, h5⟩ := check_zero hc
  have hw1 : wrap64 ((1 : Int) - 1) = 0 := by unfold wrap64; omega
  have hw2 : wrap64 ((2 : Int) - 1) = 1 := by unfold wrap64; omega
  have one : ∀ x : S124, (splitR t s).1 = [x] → ((rdata_Check.f (k + 1) t s).bind fun t101 => (if t101 = 0 then ((rdata_split.f t s).bind fun bt102 => (if 0 ≤ (wrap64 ((bt102.1.length : Int) - 1)) then (if (wrap64 ((bt102.1.length : Int) - 1)) < (bt102.1.length : Int) then (some ((rd_T124 bt102.1 (wrap64 ((bt102.1.length : Int) - 1))).f0, true)) else (none)) else (none))) else (some ((⟨#[]⟩ : ByteArray), false)))) = some (x.f0, true) := by
    intro x hx
    rw [check_k, hc, h5]
    simp only [Option.bind_some, if_true, hx, List.length_cons, List.length_nil, Nat.zero_add]
    rw [show ((1 : Nat) : Int) = 1 from rfl, hw1, if_pos (by decide), if_pos (by decide)]
    rfl
  rcases ht with h | h | h | h
  · have hk : partsL t = some [⟨0, true, false⟩] := by rw [h]; rfl
    obtain ⟨n, hn, hch⟩ : ∃ n, (splitR t s).1 = [⟨n, true⟩] ∧ name_Check.f n = some 0 := by unfold splitR at h4 ⊢; rw [hk] at h4 ⊢; exact one_name h4
    refine ⟨[], _, hn, rfl, hch, ?_⟩
    unfold rdata_Target.f
    rw [if_pos h]; exact one _ hn
  · have hk : partsL t = some [⟨0, true, false⟩] := by rw [h]; rfl
    obtain ⟨n, hn, hch⟩ : ∃ n, (splitR t s).1 = [⟨n, true⟩] ∧ name_Check.f n = some 0 := by unfold splitR at h4 ⊢; rw [hk] at h4 ⊢; exact one_name h4
    refine ⟨[], _, hn, rfl, hch, ?_⟩
    unfold rdata_Target.f
    rw [if_neg (by omega), if_pos h]; exact one _ hn
  · have hk : partsL t = some [⟨0, true, false⟩] := by rw [h]; rfl
    obtain ⟨n, hn, hch⟩ : ∃ n, (splitR t s).1 = [⟨n, true⟩] ∧ name_Check.f n = some 0 := by unfold splitR at h4 ⊢; rw [hk] at h4 ⊢; exact one_name h4
    refine ⟨[], _, hn, rfl, hch, ?_⟩
    unfold rdata_Target.f
    rw [if_neg (by omega), if_neg (by omega), if_pos h]; exact one _ hn
  · have hk : partsL t = some [⟨2, false, false⟩, ⟨0, true, false⟩] := by rw [h]; rfl
    obtain ⟨x, n, hn, hch⟩ : ∃ x n, (splitR t s).1 = [x, ⟨n, true⟩] ∧ name_Check.f n = some 0 := by unfold splitR at h4 ⊢; rw [hk] at h4 ⊢; exact mx_name h4
    refine ⟨[x], _, hn, rfl, hch, ?_⟩
    unfold rdata_Target.f
    rw [if_neg (by omega), if_neg (by omega), if_neg (by omega), if_pos h, check_k, hc, h5]
    simp only [Option.bind_some, if_true, hn, List.length_cons, List.length_nil, Nat.zero_add, Nat.reduceAdd]
    rw [show ((2 : Nat) : Int) = 2 from rfl, hw2, if_pos (by decide), if_pos (by decide)]
    rfl
theorem target_no (k : Nat) {t : Int} {s : ByteArray} (hs : s.size ≤ 100000000000) (h : ¬ (isT t ∧ rdata_Check.f 1 t s = some 0)) : rdata_Target.f (k + 1) t s = some (⟨#[]⟩, false) := by
  by_cases ht : isT t
  · obtain ⟨c, hc⟩ := check_of (t := t) (s := s) (by rcases ht with h | h | h | h <;> omega) (by rcases ht with h | h | h | h <;> omega) hs
    have h0 : c ≠ 0 := by intro e; subst e; exact h ⟨ht, hc⟩
    unfold rdata_Target.f
    rw [check_k, hc]
    simp only [Option.bind_some]
    rw [if_neg h0]
    simp
  · have ht' : t ≠ 2 ∧ t ≠ 5 ∧ t ≠ 12 ∧ t ≠ 15 := by unfold isT at ht; omega
    unfold rdata_Target.f
    rw [if_neg ht'.1, if_neg ht'.2.1, if_neg ht'.2.2.1, if_neg ht'.2.2.2]
theorem target_low (k : Nat) {t : Int} {s : ByteArray} (ht : (Lit.int .i64 t).wf = true) (hs : s.size ≤ 100000000000) :
    ∃ n b n', rdata_Target.f (k + 1) t s = some (n, b) ∧ rdata_Target.f (k + 1) t (lowR t s) = some (n', b) ∧ (b = true → name_Check.f n = some 0 ∧ n' = lowS n) := by
  have hcl := check_lowR t s ht hs 1
  by_cases h : isT t ∧ rdata_Check.f 1 t s = some 0
  · obtain ⟨l, x, h1, h2, h3, h4⟩ := target_yes k h.1 h.2
    obtain ⟨l', x', g1, g2, g3, g4⟩ := target_yes k (s := lowR t s) h.1 (by rw [hcl]; exact h.2)
    refine ⟨_, _, _, h4, g4, fun _ => ⟨h3, ?_⟩⟩
    have hsp := (check_zero h.2).2.2.2.1
    have e : lowR t s = cat ((splitR t s).1.map lowP) := by unfold lowR; exact if_pos hsp
    rw [e, (splitR_low hsp).2, h1, List.map_append, List.map_cons, List.map_nil] at g1
    simp only [] at g1
    have := (List.append_inj' g1 rfl).2
    injection this with this _
    rw [← this]
    unfold lowP
    rw [if_pos h2]
  · exact ⟨_, _, _, target_no k hs h, target_no k (by rw [lowR_size]; exact hs) (by rw [hcl]; exact h), fun h => by cases h⟩
end Go.Proofs.Ytjjbhpbmfpodeaa.PB
end
section
namespace Go.Proofs.Ytjjbhpbmfpodeaa.Pure
open Go.RowKit Go.Proofs.Ytjjbhpbmfpodeaa.X Go.Proofs.Ytjjbhpbmfpodeaa.PB Go.Proofs.YtjjbhpbmfpodeaaW.PrintWords Go.Proofs.YtjjbhpbmfpodeaaW.PrintLast

theorem RdataLower : ostiarylaw06_RdataLower.Pure := by
  intro t s ht _
  refine ⟨5, ?_⟩
  unfold ostiarylaw06_RdataLower.f
  rw [awake6 (by omega)]
  simp only [Option.bind_some]
  by_cases h1 : (s.size : Int) > 2000
  · rw [if_pos h1]
  rw [if_neg h1]
  have hs : s.size ≤ 100000000000 := by omega
  have hs2 : (lowR t s).size ≤ 100000000000 := by rw [lowR_size]; exact hs
  rw [lower_f2 ht hs (by omega)]
  simp only [Option.bind_some]
  rw [if_pos (by rw [lowR_size]), check_lowR t s ht hs]
  obtain ⟨c, hc⟩ : ∃ c, rdata_Check.f 5 t s = some c := by
    by_cases h0 : 0 ≤ t ∧ t ≤ 65535
    · obtain ⟨c, hc⟩ := check_of h0.1 h0.2 hs
      exact ⟨c, by rw [check_k]; exact hc⟩
    · unfold rdata_Check.f
      by_cases h2 : t < 0
      · rw [if_pos h2, rdata_Check.j0, if_pos rfl]; exact ⟨_, rfl⟩
      · rw [if_neg h2, decide_eq_true (by omega), rdata_Check.j0, if_pos rfl]; exact ⟨_, rfl⟩
  rw [hc]
  simp only [Option.bind_some, if_true]
  rw [lower_f2 ht hs2 (by omega), lowR_idem]
  simp only [Option.bind_some, bne_self_eq_false]
  rw [ostiarylaw06_RdataLower.j0, if_neg (by decide)]
  obtain ⟨n, b, n', g1, g2, g3⟩ := target_low 3 ht hs
  rw [g1, g2]
  simp only [Option.bind_some, if_true, beq_self_eq_true]
  by_cases hb : b = true
  · obtain ⟨g4, rfl⟩ := g3 hb
    rw [if_pos hb]
    have hn : n.size ≤ 100000000000 := by
      obtain ⟨a, _, _, h3, rfl⟩ := check_form g4
      rw [strOfNums_size]; simp; omega
    unfold name_Same.f
    rw [g4, lowS_check g4, lower_f hn, lower_f (by rw [lowS_size]; exact hn), lowS_idem]
    simp only [Option.bind_some, if_true, beq_self_eq_true]
  · rw [if_neg hb]
end Go.Proofs.Ytjjbhpbmfpodeaa.Pure
end
section
namespace Go.Proofs.Ytjjbhpbmfpodeaa.Facts

theorem words_behind : ∀ (a r : List Char), (a.all fun c => c != Char.ofNat 32) = true → wordsSigns (a ++ Char.ofNat 32 :: r) = a :: wordsSigns r
  | [], r, _ => rfl
  | c :: a, r, h => by
    simp only [List.all_cons, Bool.and_eq_true, bne_iff_ne, ne_eq] at h
    have ih := words_behind a r (by simpa using h.2)
    have hc : c ≠ ' ' := h.1
    show wordsSigns (c :: (a ++ Char.ofNat 32 :: r)) = _
    rw [wordsSigns, ih]
    · exact hc

/-- The head line: a word, a sum, a word, the rest; laid out once. -/
structure Laid (L : List Char) : Prop where
  parts : L = L.take 7 ++ Char.ofNat 32 :: ((L.drop 8).take 64 ++ Char.ofNat 32 :: ((L.drop 73).take 3 ++ Char.ofNat 32 :: L.drop 77))
  one : L.take 7 = "harness".toList
  sum : isSumSigns ((L.drop 8).take 64) = true
  cut : (L.drop 73).take 3 = "cut".toList
  two : (((L.drop 8).take 64).all fun c => c != Char.ofNat 32) = true
set_option maxRecDepth 1000000 in
theorem head : ∃ L : List Char, Try.pinned.checked.prog.initOrder = String.ofList L ∧ Laid L :=
  ⟨_, rfl, ⟨by kernel_rfl, by kernel_rfl, by kernel_rfl, by kernel_rfl, by kernel_rfl⟩⟩
theorem words : ∃ s r, isSumSigns s = true ∧ wordsSigns Try.pinned.checked.prog.initOrder.toList = "harness".toList :: s :: "cut".toList :: r := by
  obtain ⟨L, e, h⟩ := head
  refine ⟨(L.drop 8).take 64, wordsSigns (L.drop 77), h.sum, ?_⟩
  rw [e, String.toList_ofList]
  have h1 := h.parts
  have h2 := h.one
  have h4 := h.cut
  rw [h2, h4] at h1
  rw [h1, words_behind _ _ (by decide +kernel), words_behind _ _ h.two, words_behind _ _ (by decide +kernel), ← h1]
theorem behind {s : List Char} (r : List (List Char)) (h : isSumSigns s = true) : behindMainWord ("harness".toList :: s :: r) = r := by
  unfold behindMainWord
  simp [h]
/-- What is asked of the words behind the sum, where the first of them is 'cut'. -/
def body (P : Program) (r : List (List Char)) : Bool :=
    ("cut".toList == "gc".toList || "cut".toList == "spec".toList) && (r.isEmpty || r.head? == some "stop".toList) ||
    ("cut".toList == "carried".toList && r.take 2 == ["gc".toList, "cut".toList] && !P.laysLater && !P.bearsReflect) ||
    ((stripLifts liftWords ("cut".toList :: r)).2.head? == some "cut".toList &&
      ((stripLifts liftWords ("cut".toList :: r)).1.contains "finals" || !P.laysLater) && ((stripLifts liftWords ("cut".toList :: r)).1.contains "reflectrows" || !P.bearsReflect) &&
      ((stripLifts liftWords ("cut".toList :: r)).1.contains "reflectrows" || !(stripLifts liftWords ("cut".toList :: r)).1.contains "leanrows") &&
      P.doorFits (stripLifts liftWords ("cut".toList :: r)).1)
theorem enter_of {P : Program} {s : List Char} {r : List (List Char)} (h : isSumSigns s = true) (e : wordsSigns P.initOrder.toList = "harness".toList :: s :: "cut".toList :: r) (k : body P r = true) : P.mayEnter = true := by
  unfold Program.mayEnter
  rw [e, behind _ h]
  exact k
theorem finals_of {P : Program} {s : List Char} {r : List (List Char)} (h : isSumSigns s = true) (e : wordsSigns P.initOrder.toList = "harness".toList :: s :: "cut".toList :: r) (k : (("cut".toList :: r).head? == some "carried".toList && ("cut".toList :: r).take 3 != ["carried".toList, "gc".toList, "cut".toList] || (stripLifts liftWords ("cut".toList :: r)).1.contains "finals") = false) : P.liftsFinal = false := by
  unfold Program.liftsFinal Program.headLifts
  rw [e, behind _ h]
  exact k
theorem make_of {P : Program} {s : List Char} {r : List (List Char)} (h : isSumSigns s = true) (e : wordsSigns P.initOrder.toList = "harness".toList :: s :: "cut".toList :: r) : P.make = some .cut := by
  unfold Program.make
  rw [e, behind _ h]
  rfl
theorem body_true (r : List (List Char)) : body Try.pinned.checked.prog r = true := by kernel_rfl
theorem mayEnter : Try.pinned.checked.prog.mayEnter = true := by
  obtain ⟨s, r, h, e⟩ := words
  exact enter_of h e (body_true r)
theorem finals : Try.pinned.checked.prog.liftsFinal = false := by
  obtain ⟨s, r, h, e⟩ := words
  exact finals_of h e (by kernel_rfl)
theorem make : Try.pinned.checked.prog.make = some .cut := by
  obtain ⟨s, r, h, e⟩ := words
  exact make_of h e
end Go.Proofs.Ytjjbhpbmfpodeaa.Facts
end
section
namespace Go.Proofs.Ytjjbhpbmfpodeaa.rdataLower
open Go.ChangeShapes Go.WideShapes Go.ChangeAt Go.RowKit
open Go.ChangeMaps (open_string shut_string)
set_option linter.unusedVariables false
theorem own : ownKnob Try.prog.godebug = none := by kernel_rfl
set_option maxRecDepth 100000 in
theorem lifted (os : Os) (started : os.Started) (H : Type) (enc : TypeId × Value → H) :
    ReturnsInHanded {} Try.checked os 19 .any (Rows.rdataLowerSpec.pre6 enc Try.prog Try.f19 Rows.rdataLowerRow.domain false) (Rows.rdataLowerSpec.post enc Try.prog Try.f19 false true false false) := by
  refine returnsInHanded_of_change_sized (C := Try.checked) own started (by kernel_rfl) Try.func19
    (ChangeSpec.witness6 (enc := enc) (C := Try.checked) false ⟨#[], #[.int .i64 0, .string ByteArray.empty], []⟩ 8 (by kernel_rfl) (by kernel_rfl) (by kernel_rfl) (by kernel_rfl)) ?_
  intro W base args ds gs before hval0 hW hcnd hsz0 _
  have hsz : (DataW.weightsEach Try.prog (Try.f19.params.toList ++ Rows.rdataLowerSpec.plain.varTypes Try.prog) (ds ++ gs)).all (· ≤ reachBytes) = true := hsz0
  have hval : ∀ (j : Nat) t v, Try.f19.params[j]? = some t → args[j]? = some v → Value.okWide Try.prog W .any base t v := hval0
  have hW' := hW
  obtain ⟨p, q, hA0, hV, rfl, hfz, hnd⟩ := hW
  have hA : DataW.TrodAll enc Try.prog W 0 (fun _ => true) true Try.f19.params.toList args.toList ds p := hA0
  rw [Try.params19] at hA hval hsz
  obtain ⟨v0, vs0, d0, ds0, p0, q0, hargs, rfl, rfl, h0, r0⟩ := trodAll_cons hA
  obtain ⟨v1, vs1, d1, ds1, p1, q1, rfl, rfl, rfl, h1, r1⟩ := trodAll_cons r0
  obtain ⟨rfl, rfl, rfl⟩ := trodAll_nil r1
  obtain rfl : args = #[v0, v1] := by cases args; simp_all
  obtain ⟨rfl, rfl⟩ := trodVars_none hV
  obtain ⟨a0, rfl, rfl, rfl, w0⟩ := open_int Try.underlying3 (hval 0 3 v0 rfl rfl) h0
  obtain ⟨a1, rfl, rfl, rfl, y1⟩ := open_string Try.underlying9 (hval 1 9 v1 rfl rfl) h1
  have w1 : a1.size ≤ 140737488351232 := by
    have z := sized_string hsz (j := 1) (t := 9) rfl rfl
    rw [Array.length_toList] at z
    exact z
  clear hA0 hval0 hsz0 hsz
  refine (X.ostiarylaw06_RdataLower.walk Pure.RdataLower a0 a1 W w0 w1).mono fun e W' ⟨he, bel⟩ => ?_
  subst he
  exact ⟨_, rfl, _, _, _, [], _, [], hW', trodAll_mk1 (shut_bool Try.underlying4 _), (trodAll_cons_mk (shut_int Try.underlying3 w0) (trodAll_cons_mk (shut_string Try.underlying9 y1) trodAll_mk0)), rfl, bel.frame _, fun h => by cases h⟩
theorem facts : joinedFacts Try.pinned.checked.prog 19 Try.f19 Rows.rdataLowerSpec Rows.rdataLowerRow = true := by
  unfold joinedFacts
  simp only [Bool.and_eq_true]
  repeat' (refine And.intro ?_ ?_)
  all_goals first | (with_reducible exact Facts.mayEnter) | (rw [Facts.finals]; rfl) | (rw [Facts.make]; rfl) | (as_aux_lemma => kernel_rfl)
theorem over : Rows.rdataLowerRow.holds Try.pinned (OpenSpec.ofChange Rows.rdataLowerSpec) :=
  OpenClaim.holds_of_wide 19 Try.f19 rfl rfl rfl rfl rfl rfl rfl ⟨rfl, rfl, rfl, rfl, rfl⟩ rfl rfl rfl rfl rfl (by kernel_rfl) Try.func19 facts
    (of_decide_eq_true (by kernel_rfl)) (by unfold Func.isWrapper; first | (rw [if_pos (by decide +kernel)]; kernel_rfl) | (rw [if_neg (by decide +kernel)]; exact ⟨rfl, rfl⟩))
    (fun os started H enc _ => lifted os started H enc)
theorem proved : Rows.RdataLowerSaid := over
#print axioms proved
end Go.Proofs.Ytjjbhpbmfpodeaa.rdataLower
namespace Go.Proofs.Ytjjbhpbmfpodeaa
/-- The row, under a short name, for the claim. -/
theorem rdataLower_holds : Rows.RdataLowerSaid := rdataLower.proved
end Go.Proofs.Ytjjbhpbmfpodeaa
end
