/- A law of the document, proved of the program: its own texts (plain functions, the walks, plain lemmas, the row), one behind the other. Conditions: those in the theorems. Part 2 of 4. Laid by the session's program wip/merge2.py. -/
import Derived.Test.YtjjbhpbmfpodeaaRows
import Derived.Test.YtjjbhpbmfpodeaaProg
import Derived.Below
import Derived.Deep.Draws
import Derived.Deep.AppendLies
import Derived.Maps.AppendAt
import Derived.OwnWalk
import Derived.Laws.BytesArg
import Derived.Laws.MakeOwn
import Derived.Laws.OwnMore
import Derived.Deep.OwnRows
import Derived.Tactics
import Derived.Lib.ConvBytes
import Derived.Laws.Slices
import Derived.WalkKit
import Derived.KernelRfl
import Derived.RowKit3
import Derived.Deep.LoopGhost
import Derived.Deep.QuietTactic
import Derived.BigQuiet
import Derived.WideLaws
import Derived.Deep.DeepCutAuto
import Derived.Deep.CutBlock
import Derived.Deep.RegionHeld3
import Derived.Laws.Rows
import Derived.Lib.AppendStr
import Derived.ArgAppend
import Derived.Laws.IdiomCopy
import Derived.OrdersHeld
import Derived.Laws.BitsLemmas
import Derived.RowKit
import Derived.Test.YtjjbhpbmfpodeaaWWords
import Derived.Test.YtjjbhpbmfpodeaaWLast
import Derived.Test.YtjjbhpbmfpodeaaWTab
import Derived.Test.YtjjbhpbmfpodeaaWFour
import Derived.Test.YtjjbhpbmfpodeaaWQPut
import Derived.Test.YtjjbhpbmfpodeaaWApart
import Derived.Test.YtjjbhpbmfpodeaaWArr
import Derived.Test.YtjjbhpbmfpodeaaWZeros
import Derived.Test.YtjjbhpbmfpodeaaWFoot
import Derived.Test.YtjjbhpbmfpodeaaWKept
import Derived.Test.YtjjbhpbmfpodeaaWShare
import Derived.Test.YtjjbhpbmfpodeaaWN
import Derived.Test.YtjjbhpbmfpodeaaWFootNe
import Derived.Test.YtjjbhpbmfpodeaaWAt
import Derived.Test.YtjjbhpbmfpodeaaWEqStruct
import Derived.Test.YtjjbhpbmfpodeaaWRepsOne
import Derived.Test.YtjjbhpbmfpodeaaWInv
import Derived.Test.YtjjbhpbmfpodeaaWInvWords
import Derived.Test.YtjjbhpbmfpodeaaWGuard
import Derived.Test.YtjjbhpbmfpodeaaWNEv
import Derived.Test.YtjjbhpbmfpodeaaWMore
import Derived.RangeFuncWrites
import Derived.RangeFuncLeaves
import Derived.RangeFuncBox
import Derived.Deep.WholeRow
import Derived.Deep.RegionHeld
import Derived.Laws.CopyRow
import Derived.OwnWalkIn
import Derived.TacticsInMore
import Derived.LoopNIn
import Derived.LoopIn
import Derived.Sort.QuietIn
import Derived.Maps.OwnIn
import Derived.Maps.Views
import Derived.Sort.MapsRangeIn
import Derived.StringKeys
import Derived.Recover
import Derived.Laws.Panics
import Derived.OpenShut
import Derived.Shelf.Abstract
import Derived.Shelf.RegionOpen
import Derived.WalkSmall
import Derived.RecoverIn
import Derived.Laws.Pointers
import Derived.BigRegionIn
import Derived.WalkMore
import Derived.Lib.AtoiErrMem
import Derived.ProofKit
import Derived.JoinedOf
import Derived.ShutString
import Derived.ChangeOld
import Derived.SizedLaws
import Derived.Test.YtjjbhpbmfpodeaaJRdataChecksA
section
namespace Go.Proofs.Ytjjbhpbmfpodeaa.X
open Go.RowKit Go.Proofs.YtjjbhpbmfpodeaaW.PrintWords Go.Proofs.YtjjbhpbmfpodeaaW.PrintLast Go.Proofs.YtjjbhpbmfpodeaaW.PrintMore
attribute [local go_sem] max2_int min2_int max_two min_two max_three min_three max_four min_four   -- for this text's walks alone
set_option linter.unusedVariables false
set_option linter.unusedSimpArgs false

/-! ### wire_Read: function 45 -/
mutual
def wire_Read.j0 : Nat → List Int → Int → Bool → Option (ByteArray × Int × Int × Int)
  | 0, _, _, _ => none
  | k + 1, x0, x1, x25 => if x25 = true then (some ((⟨#[]⟩ : ByteArray), 0, 5, 0)) else (wire_Read.l0 k x0 x1 ([] : List Int) x1 x1 (-1))
def wire_Read.l0 : Nat → List Int → Int → List Int → Int → Int → Int → Option (ByteArray × Int × Int × Int)
  | 0, _, _, _, _, _, _ => none
  | k + 1, x0, x1, x7, x8, x9, x10 => if x9 ≥ (x0.length : Int) then (some ((⟨#[]⟩ : ByteArray), 0, 4, (x0.length : Int))) else (if 0 ≤ x9 then (if x9 < (x0.length : Int) then (if (wrap64 (rd x0 x9)) = 0 then (if x10 < 0 then (if x7.length < 140737488355328 then (some (strOfNums (x7 ++ [0]), wrap64 (x9 + 1), 0, 0)) else (none)) else (if x7.length < 140737488355328 then (some (strOfNums (x7 ++ [0]), x10, 0, 0)) else (none))) else (if (wrap64 (rd x0 x9)) ≥ 192 then ((octet_Get16.f x0 x9).bind fun bt109 => (if bt109.2.2.1 = 0 then (if (Go.bits .and .i64 bt109.1 16383) ≥ x8 then (some ((⟨#[]⟩ : ByteArray), 0, 150, x9)) else (if x10 < 0 then (wire_Read.l0 k x0 x1 x7 (Go.bits .and .i64 bt109.1 16383) (Go.bits .and .i64 bt109.1 16383) bt109.2.1) else (wire_Read.l0 k x0 x1 x7 (Go.bits .and .i64 bt109.1 16383) (Go.bits .and .i64 bt109.1 16383) x10))) else (some ((⟨#[]⟩ : ByteArray), 0, bt109.2.2.1, bt109.2.2.2)))) else (if (wrap64 (rd x0 x9)) > 63 then (some ((⟨#[]⟩ : ByteArray), 0, 4, x9)) else ((octet_Bytes.f k x0 x9 (wrap64 ((wrap64 (rd x0 x9)) + 1))).bind fun bt114 => (if bt114.2.2.1 = 0 then (if x7.length + bt114.1.length < 140737488355328 then ((some (x7 ++ bt114.1 : List Int)).bind fun y121 => (if (y121.length : Int) > 254 then (some ((⟨#[]⟩ : ByteArray), 0, 3, x1)) else (wire_Read.l0 k x0 x1 y121 x8 bt114.2.1 x10))) else (none)) else (some ((⟨#[]⟩ : ByteArray), 0, bt114.2.2.1, bt114.2.2.2))))))) else (none)) else (none))
end
def wire_Read.f (k : Nat) (l0 : List Int) (a1 : Int) : Option (ByteArray × Int × Int × Int) := if a1 < 0 then (wire_Read.j0 k l0 a1 true) else (wire_Read.j0 k l0 a1 (decide (a1 > (l0.length : Int))))
set_option maxHeartbeats 8000000 in
set_option maxRecDepth 100000 in
theorem wire_Read.calls (k : Nat) (A0 : Option Addr) (c0 : Nat) (l0 : List Int) (a1 : Int) (r1 : ByteArray) (r2 : Int) (r3 : Int) (r4 : Int) (w : World) (hr0 : Kd.C (Kd.int .u8) w A0 l0.length l0) (hc0 : l0.length ≤ c0) (h : wire_Read.f k l0 a1 = some (r1, r2, r3, r4)) :
    Calls Try.prog 45 #[.slice A0 l0.length c0, .int .i64 a1] w fun e w' => e = .returned (.tuple #[.string r1, .int .i64 r2, .agg #[.int .i64 r3, .int .i64 r4]]) ∧ Below w.heap.size w w' := by
  have hu31 := Try.underlying31
  have HR0 := Aside0.mk hr0
  have HC0 := Aside0.mk hc0
  clear hr0 hc0
  have HB := Aside0.mk (Below.refl w.heap.size w)
  have H : (if a1 < 0 then (wire_Read.j0 k l0 a1 true) else (wire_Read.j0 k l0 a1 (decide (a1 > (l0.length : Int))))) = some (r1, r2, r3, r4) := h
  clear h
  have HC3 := Aside0.mk H
  clear H
  go_enter Try.func45, Try.ntmps45
  go_wp2_with (first | ((with_reducible refine gate_dst (N := 6) rfl ?_); (try (refine gate_guard (by rfl) ?_; dsimp only)); refine box_event ?hg (N := 6) ?hd (cs := #[.int .i64 0, .int .i64 0]) (t := 31) ?hr ?_; (case hd => rfl); (case hg => rfl); (case hr => first | (go_simp; done) | (go_simp; rfl)); intro gb101 hg w4 hbox hb; have n0_ := Aside0.mk (below_step (by repeat (first | (with_reducible first | exact HB.out | apply below_alloc | apply pw_below_drewN | apply below_drew1) | exact HB.out)) hb); have n1_ := Aside0.mk (hbox); have n2_ := Aside0.mk ((by rw [hg]; exact (below_size (by repeat (first | (with_reducible first | exact HB.out | apply below_alloc | apply pw_below_drewN | apply below_drew1) | exact HB.out))) : w.heap.size ≤ gb101)); have n3_ := Aside0.mk ((by rw [hg]; exact (below_size (by repeat (first | (with_reducible first | exact HB.out | apply below_alloc | apply pw_below_drewN | apply below_drew1) | exact HB.out))) : w.heap.size ≤ gb101)); clear HB; have HB := n0_; have BK101 := n1_; have GW101 := n2_; have GE101 := n3_; clear n0_ n1_ n2_ n3_; clear hb hbox hg))
  go_step3
  go_upto_region 1 with (fail)
  (try simp only [Act.put, List.setIfInBounds_toArray, List.set_cons_zero, List.set_cons_succ])
  go_cut [25] (fun v25 wc => ∃ (kq : Nat) (x25_2 : Bool), v25 = .bool x25_2 ∧ Aside0 (wire_Read.j0 kq l0 a1 x25_2 = some (r1, r2, r3, r4)) ∧ Aside0 (kq ≤ k) ∧ Aside0 (wc.heap[gb101]? = some (.cells #[.int .i64 0, .int .i64 0] 31 (0, 0))) ∧ Aside0 (Below w.heap.size w wc))
  case first =>
    have H := HC3.out
    clear HC3
    by_cases c5 : a1 < 0
    · rw [if_pos c5] at H
      have c5b0 : decide (a1 < 0) = true := decide_eq_true c5
      clear c5
      (first | rw [c5b0] | (simp only [i64_w, i32_w]; rw [c5b0]) | skip)
      have H' := Aside0.mk H
      clear H
      go_wp2
      go_meet
      case rel => exact ⟨_, (true), (by first | rfl | (simp; done) | (simp [*]; done)), H', ⟨by first | omega | exact Nat.le_refl _⟩, ⟨by (with_reducible repeat (first | refine blk_drewN ?_ _ | refine blk_drew ?_ | refine blk_alloc ?_ _)); exact BK101.out⟩, ⟨by repeat (first | (with_reducible first | exact HB.out | apply below_alloc | apply pw_below_drewN | apply below_drew1 | refine below_set ?_ GE101.out) | exact HB.out)⟩⟩
    · rw [if_neg c5] at H
      have c5b0 : decide (a1 < 0) = false := decide_eq_false c5
      clear c5
      (first | rw [c5b0] | (simp only [i64_w, i32_w]; rw [c5b0]) | skip)
      have H' := Aside0.mk H
      clear H
      go_wp2
      go_meet
      case rel => exact ⟨_, (decide (a1 > (l0.length : Int))), (by first | rfl | (simp; done) | (simp [*]; done)), H', ⟨by first | omega | exact Nat.le_refl _⟩, ⟨by (with_reducible repeat (first | refine blk_drewN ?_ _ | refine blk_drew ?_ | refine blk_alloc ?_ _)); exact BK101.out⟩, ⟨by repeat (first | (with_reducible first | exact HB.out | apply below_alloc | apply pw_below_drewN | apply below_drew1 | refine below_set ?_ GE101.out) | exact HB.out)⟩⟩
  case rest =>
    clear HC3
    try clear p2
    try clear c4
    try clear c5
    try clear c5b0
    obtain ⟨kq, x25_2, rfl, HA, HJ2, BK101, HB⟩ := hcut
    cases kq with
    | zero => exact absurd HA.out (by simp [wire_Read.j0])
    | succ kj2 =>
      have H := HA.out
      clear HA
      simp only [wire_Read.j0] at H
      by_cases c6 : x25_2 = true
      · subst c6
        have H1 : (some ((⟨#[]⟩ : ByteArray), 0, 5, 0)) = some (r1, r2, r3, r4) := by rw [if_pos rfl] at H; exact H
        clear H
        have H := H1
        clear H1
        simp only [Option.some.injEq, Prod.mk.injEq] at H
        obtain ⟨rfl, rfl, rfl, rfl⟩ := H
        have hcz7_0 : wc.cell? ⟨gb101, 0, none⟩ = some (.int .i64 0) := (blk_cell BK101.out 0).trans rfl
        have hcz7_1 : wc.cell? ⟨gb101, 1, none⟩ = some (.int .i64 0) := (blk_cell BK101.out 1).trans rfl
        have hfz7_0 := blk_frozen BK101.out 0
        have hfz7_1 := blk_frozen BK101.out 1
        go_wp2
        (try rw [Exit.noGoto_ret])
        refine bodyPost_ret (results_list (rs := [.tmp 4, .tmp 5, .cell 6 31]) rfl (by simp) (.tmp (.tmp (.cell gb101 31 #[.int .i64 5, .int .i64 0] (0, 0) _ rfl (by (with_reducible repeat (first | refine blk_drewN ?_ _ | refine blk_drew ?_ | refine blk_alloc ?_ _)); refine blk_put (cs := #[.int .i64 5, .int .i64 0]) ?_ 1 _ rfl; (with_reducible repeat (first | refine blk_drewN ?_ _ | refine blk_drew ?_ | refine blk_alloc ?_ _)); refine blk_put (cs := #[.int .i64 0, .int .i64 0]) ?_ 0 _ rfl; (with_reducible repeat (first | refine blk_drewN ?_ _ | refine blk_drew ?_ | refine blk_alloc ?_ _)); exact BK101.out) Try.underlying31 rfl (by kernel_rfl) .nil)))) rfl ?_
        exact ⟨by first | rfl | (simp [errW_none, errW_some] <;> rfl) | (simp [*, errW_none, errW_some] <;> rfl), by repeat (first | (with_reducible first | exact HB.out | apply below_alloc | apply pw_below_drewN | apply below_drew1 | refine below_set ?_ GE101.out) | exact HB.out)⟩
      · replace c6 := Bool.eq_false_iff.mpr c6
        subst c6
        have H1 : (wire_Read.l0 kj2 l0 a1 ([] : List Int) a1 a1 (-1)) = some (r1, r2, r3, r4) := by rw [if_neg (show ¬ (false = true) by decide)] at H; exact H
        clear H
        have H := H1
        clear H1
        have H' := Aside0.mk H
        clear H
        go_wp2
        go_step3
        go_wp2
        go_loopg [7, 8, 9, 10] kj2 (fun kq v7 v8 v9 v10 w' => ∃ (x7_2 : List Int) (x8_2 : Int) (x9_2 : Int) (x10_2 : Int) (x102000_2 : Int) (x102001_2 : Int), v8 = .int .i64 x8_2 ∧ v9 = .int .i64 x9_2 ∧ v10 = .int .i64 x10_2 ∧ Aside0 (wire_Read.l0 kq l0 a1 x7_2 x8_2 x9_2 x10_2 = some (r1, r2, r3, r4)) ∧ Aside0 (kq ≤ kj2) ∧ Aside0 (Kd.R (Kd.int .u8) 5 w' w.heap.size (fun _ => True) v7 x7_2) ∧ Aside0 (w'.heap[gb101]? = some (.cells #[.int .i64 x102000_2, .int .i64 x102001_2] 31 (0, 0))) ∧ Aside0 (Below w.heap.size w w'))
        case atStart => exact ⟨(([] : List Int)), (a1), (a1), ((-1)), (0), (0), (by first | rfl | (simp; done) | (simp [*]; done)), (by first | rfl | (simp; done) | (simp [*]; done)), (by first | rfl | (simp; done) | (simp [*]; done)), H', ⟨Nat.le_refl _⟩, ⟨by first | exact Kd.R_nil _ _ _ _ _ | exact Kd.N_nil _ _ _ _ _ | exact Kd.V_nil _ _ _ _ _ | exact Kd.Q_nil _ _ _ _ _ | exact Kd.S_nil _ _ _ _ _⟩, ⟨by (with_reducible repeat (first | refine blk_drewN ?_ _ | refine blk_drew ?_ | refine blk_alloc ?_ _)); exact BK101.out⟩, ⟨by repeat (first | (with_reducible first | exact HB.out | apply below_alloc | apply pw_below_drewN | apply below_drew1 | refine below_set ?_ GE101.out) | exact HB.out)⟩⟩
        case round =>
          clear H'
          try clear p2
          try clear c4
          try clear c5
          try clear c5b0
          try clear c6
          try clear hcz7_0
          try clear hcz7_1
          try clear hfz7_0
          try clear hfz7_1
          try clear p2
          obtain ⟨x7_2, x8_2, x9_2, x10_2, x102000_2, x102001_2, rfl, rfl, rfl, HA, HK2, HO_7, BK101, HB⟩ := hrel
          cases gk with
          | zero => exact absurd HA.out (by simp [wire_Read.l0])
          | succ k2 =>
            have H := HA.out
            clear HA
            simp only [wire_Read.l0] at H
            by_cases c8 : x9_2 ≥ (l0.length : Int)
            · rw [if_pos c8] at H
              have c8b0 : decide ((l0.length : Int) ≤ x9_2) = true := decide_eq_true c8
              clear c8
              simp only [Option.some.injEq, Prod.mk.injEq] at H
              obtain ⟨rfl, rfl, rfl, rfl⟩ := H
              have hcz9_0 : wr.cell? ⟨gb101, 0, none⟩ = some (.int .i64 x102000_2) := (blk_cell BK101.out 0).trans rfl
              have hcz9_1 : wr.cell? ⟨gb101, 1, none⟩ = some (.int .i64 x102001_2) := (blk_cell BK101.out 1).trans rfl
              have hfz9_0 := blk_frozen BK101.out 0
              have hfz9_1 := blk_frozen BK101.out 1
              go_wp2
              (try rw [Exit.noGoto_ret])
              refine bodyPost_ret (results_list (rs := [.tmp 4, .tmp 5, .cell 6 31]) rfl (by simp) (.tmp (.tmp (.cell gb101 31 #[.int .i64 4, .int .i64 (l0.length : Int)] (0, 0) _ rfl (by (with_reducible repeat (first | refine blk_drewN ?_ _ | refine blk_drew ?_ | refine blk_alloc ?_ _)); refine blk_put (cs := #[.int .i64 4, .int .i64 x102001_2]) ?_ 1 _ rfl; (with_reducible repeat (first | refine blk_drewN ?_ _ | refine blk_drew ?_ | refine blk_alloc ?_ _)); refine blk_put (cs := #[.int .i64 x102000_2, .int .i64 x102001_2]) ?_ 0 _ rfl; (with_reducible repeat (first | refine blk_drewN ?_ _ | refine blk_drew ?_ | refine blk_alloc ?_ _)); exact BK101.out) Try.underlying31 rfl (by kernel_rfl) .nil)))) rfl ?_
              exact ⟨by first | rfl | (simp [errW_none, errW_some] <;> rfl) | (simp [*, errW_none, errW_some] <;> rfl), by repeat (first | (with_reducible first | exact HB.out | apply below_alloc | apply pw_below_drewN | apply below_drew1 | refine below_set ?_ GE101.out) | exact HB.out)⟩
            · rw [if_neg c8] at H
              have c8b0 : decide ((l0.length : Int) ≤ x9_2) = false := decide_eq_false c8
              clear c8
              by_cases c10 : 0 ≤ x9_2
              · rw [if_pos c10] at H
                have c10b0 : decide (0 ≤ x9_2) = true := decide_eq_true c10
                clear c10
                by_cases c11 : x9_2 < (l0.length : Int)
                · rw [if_pos c11] at H
                  have c11b0 : decide (x9_2 < (l0.length : Int)) = true := decide_eq_true c11
                  clear c11
                  by_cases c12 : (wrap64 (rd l0 x9_2)) = 0
                  · rw [if_pos c12] at H
                    have c12b0 : ((wrap64 (rd l0 x9_2)) == 0) = true := beq_iff_eq.mpr c12
                    have c12b1 : ((wrap64 (rd l0 x9_2)) != 0) = false := bne_eq_false_iff_eq.mpr c12
                    clear c12
                    by_cases c13 : x10_2 < 0
                    · rw [if_pos c13] at H
                      have c13b0 : decide (x10_2 < 0) = true := decide_eq_true c13
                      clear c13
                      by_cases c14 : x7_2.length < 140737488355328
                      · rw [if_pos c14] at H
                        have LMc14 := Aside0.mk c14
                        clear c14
                        obtain ⟨y103, hy103⟩ : ∃ y_ : List Int, y_ = (x7_2 ++ [0]) := ⟨_, rfl⟩
                        replace H : (some (strOfNums y103, wrap64 (x9_2 + 1), 0, 0)) = some (r1, r2, r3, r4) := by first | (rw [hy103]; with_reducible exact H) | (have H2_ := (Option.bind_some _ _).symm.trans H; rw [hy103]; with_reducible exact H2_) | (have H2_ := (Option.bind_some _ _).symm.trans H; with_reducible exact H2_) | with_reducible exact H | (rw [hy103]; exact H) | exact H
                        have Ny103 := Aside0.mk hy103
                        clear hy103
                        simp only [Option.some.injEq, Prod.mk.injEq] at H
                        obtain ⟨rfl, rfl, rfl, rfl⟩ := H
                        have p102 : 0 ≤ (x9_2 : Int) := of_decide_eq_true (by first | (with_reducible assumption) | assumption)
                        have q102 : x9_2 < (l0.length : Int) := of_decide_eq_true (by first | (with_reducible assumption) | assumption)
                        obtain ⟨ad102, e102, hx102_0⟩ := Kd.at_int HR0.out x9_2 p102 q102
                        cases e102
                        replace hx102_0 := (HB.out.cell (World.block_lt_of_cell? w _ hx102_0)).trans hx102_0
                        replace p102 := eq_true p102
                        replace q102 := eq_true q102
                        go_wp2_with (first | ((with_reducible refine gate_builtin (b := .append) (xs := #[.tmp 101, .tmp 102]) rfl ?_); (try (refine gate_guard (by rfl) ?_; dsimp only)); at_builtin; refine Kd.R_append (Kd.int .u8) (w0 := w) w.heap.size rfl (.tmp 101) (.tmp 102) 22 5 (.int .u8 0) 1 rfl Try.underlying22 info5 rfl (by decide) (by omega) u7 x7_2 0 [.int .u8 0] (fun _ => True) (fun _ => False) rfl rfl ?aP (fun _ hk => hk.elim) ?aF ?aO ?aB ?aS ?aL ?_; (case aP => exact rfl); (case aB => exact (by repeat (first | (with_reducible first | exact HB.out | apply below_alloc | apply pw_below_drewN | apply below_drew1 | refine below_set ?_ GE101.out) | exact HB.out))); (case aF => exact (fun _ _ => trivial)); (case aO => exact (by (with_reducible repeat (first | apply Kd.R_alloc | apply Kd.R_drewN | apply Kd.R_drew)); exact HO_7.out)); (case aS => exact (below_size (by repeat (first | (with_reducible first | exact HB.out | apply below_alloc | apply pw_below_drewN | apply below_drew1 | refine below_set ?_ GE101.out) | exact HB.out)))); (case aL => have := LMc14.out; omega); intro v104 w15 ho hb hg hat; rw [← Ny103.out] at ho; have n0_ := Aside0.mk (blk_grown (g := gb101) (o := .cells #[.int .i64 x102000_2, .int .i64 x102001_2] 31 (0, 0)) (by (with_reducible repeat (first | refine blk_drewN ?_ _ | refine blk_drew ?_ | refine blk_alloc ?_ _)); exact BK101.out) hg (Kd.R_ne HO_7.out BK101.out (by decide))); have n1_ := Aside0.mk (hb); have n2_ := Aside0.mk (ho); clear BK101; clear HB; clear HO_7; have BK101 := n0_; have HB := n1_; have HO105 := n2_; clear n0_ n1_ n2_; clear ho hb hg hat; have hcv16 := own_string (P := Try.prog) Try.underlying22 Try.underlying5 Try.underlying9 (Kd.own_of_R HO105.out); have hcz17_0 : w15.cell? ⟨gb101, 0, none⟩ = some (.int .i64 x102000_2) := (blk_cell BK101.out 0).trans rfl; have hcz17_1 : w15.cell? ⟨gb101, 1, none⟩ = some (.int .i64 x102001_2) := (blk_cell BK101.out 1).trans rfl; have hfz17_0 := blk_frozen BK101.out 0; have hfz17_1 := blk_frozen BK101.out 1))
                        (try rw [Exit.noGoto_ret])
                        refine bodyPost_ret (results_list (rs := [.tmp 4, .tmp 5, .cell 6 31]) rfl (by simp) (.tmp (.tmp (.cell gb101 31 #[.int .i64 0, .int .i64 0] (0, 0) _ rfl (by (with_reducible repeat (first | refine blk_drewN ?_ _ | refine blk_drew ?_ | refine blk_alloc ?_ _)); refine blk_put (cs := #[.int .i64 0, .int .i64 x102001_2]) ?_ 1 _ rfl; (with_reducible repeat (first | refine blk_drewN ?_ _ | refine blk_drew ?_ | refine blk_alloc ?_ _)); refine blk_put (cs := #[.int .i64 x102000_2, .int .i64 x102001_2]) ?_ 0 _ rfl; (with_reducible repeat (first | refine blk_drewN ?_ _ | refine blk_drew ?_ | refine blk_alloc ?_ _)); exact BK101.out) Try.underlying31 rfl (by kernel_rfl) .nil)))) rfl ?_
                        exact ⟨by first | rfl | (simp [errW_none, errW_some] <;> rfl) | (simp [*, errW_none, errW_some] <;> rfl), by repeat (first | (with_reducible first | exact HB.out | apply below_alloc | apply pw_below_drewN | apply below_drew1 | refine below_set ?_ GE101.out) | exact HB.out)⟩
                      · rw [if_neg c14] at H
                        exact absurd H (by simp)
                    · rw [if_neg c13] at H
                      have c13b0 : decide (x10_2 < 0) = false := decide_eq_false c13
                      clear c13
                      by_cases c18 : x7_2.length < 140737488355328
                      · rw [if_pos c18] at H
                        have LMc18 := Aside0.mk c18
                        clear c18
                        obtain ⟨y106, hy106⟩ : ∃ y_ : List Int, y_ = (x7_2 ++ [0]) := ⟨_, rfl⟩
                        replace H : (some (strOfNums y106, x10_2, 0, 0)) = some (r1, r2, r3, r4) := by first | (rw [hy106]; with_reducible exact H) | (have H2_ := (Option.bind_some _ _).symm.trans H; rw [hy106]; with_reducible exact H2_) | (have H2_ := (Option.bind_some _ _).symm.trans H; with_reducible exact H2_) | with_reducible exact H | (rw [hy106]; exact H) | exact H
                        have Ny106 := Aside0.mk hy106
                        clear hy106
                        simp only [Option.some.injEq, Prod.mk.injEq] at H
                        obtain ⟨rfl, rfl, rfl, rfl⟩ := H
                        have p102 : 0 ≤ (x9_2 : Int) := of_decide_eq_true (by first | (with_reducible assumption) | assumption)
                        have q102 : x9_2 < (l0.length : Int) := of_decide_eq_true (by first | (with_reducible assumption) | assumption)
                        obtain ⟨ad102, e102, hx102_0⟩ := Kd.at_int HR0.out x9_2 p102 q102
                        cases e102
                        replace hx102_0 := (HB.out.cell (World.block_lt_of_cell? w _ hx102_0)).trans hx102_0
                        replace p102 := eq_true p102
                        replace q102 := eq_true q102
                        go_wp2_with (first | ((with_reducible refine gate_builtin (b := .append) (xs := #[.tmp 101, .tmp 102]) rfl ?_); (try (refine gate_guard (by rfl) ?_; dsimp only)); at_builtin; refine Kd.R_append (Kd.int .u8) (w0 := w) w.heap.size rfl (.tmp 101) (.tmp 102) 22 5 (.int .u8 0) 1 rfl Try.underlying22 info5 rfl (by decide) (by omega) u7 x7_2 0 [.int .u8 0] (fun _ => True) (fun _ => False) rfl rfl ?aP (fun _ hk => hk.elim) ?aF ?aO ?aB ?aS ?aL ?_; (case aP => exact rfl); (case aB => exact (by repeat (first | (with_reducible first | exact HB.out | apply below_alloc | apply pw_below_drewN | apply below_drew1 | refine below_set ?_ GE101.out) | exact HB.out))); (case aF => exact (fun _ _ => trivial)); (case aO => exact (by (with_reducible repeat (first | apply Kd.R_alloc | apply Kd.R_drewN | apply Kd.R_drew)); exact HO_7.out)); (case aS => exact (below_size (by repeat (first | (with_reducible first | exact HB.out | apply below_alloc | apply pw_below_drewN | apply below_drew1 | refine below_set ?_ GE101.out) | exact HB.out)))); (case aL => have := LMc18.out; omega); intro v107 w19 ho hb hg hat; rw [← Ny106.out] at ho; have n0_ := Aside0.mk (blk_grown (g := gb101) (o := .cells #[.int .i64 x102000_2, .int .i64 x102001_2] 31 (0, 0)) (by (with_reducible repeat (first | refine blk_drewN ?_ _ | refine blk_drew ?_ | refine blk_alloc ?_ _)); exact BK101.out) hg (Kd.R_ne HO_7.out BK101.out (by decide))); have n1_ := Aside0.mk (hb); have n2_ := Aside0.mk (ho); clear BK101; clear HB; clear HO_7; have BK101 := n0_; have HB := n1_; have HO108 := n2_; clear n0_ n1_ n2_; clear ho hb hg hat; have hcv20 := own_string (P := Try.prog) Try.underlying22 Try.underlying5 Try.underlying9 (Kd.own_of_R HO108.out); have hcz21_0 : w19.cell? ⟨gb101, 0, none⟩ = some (.int .i64 x102000_2) := (blk_cell BK101.out 0).trans rfl; have hcz21_1 : w19.cell? ⟨gb101, 1, none⟩ = some (.int .i64 x102001_2) := (blk_cell BK101.out 1).trans rfl; have hfz21_0 := blk_frozen BK101.out 0; have hfz21_1 := blk_frozen BK101.out 1))
                        (try rw [Exit.noGoto_ret])
                        refine bodyPost_ret (results_list (rs := [.tmp 4, .tmp 5, .cell 6 31]) rfl (by simp) (.tmp (.tmp (.cell gb101 31 #[.int .i64 0, .int .i64 0] (0, 0) _ rfl (by (with_reducible repeat (first | refine blk_drewN ?_ _ | refine blk_drew ?_ | refine blk_alloc ?_ _)); refine blk_put (cs := #[.int .i64 0, .int .i64 x102001_2]) ?_ 1 _ rfl; (with_reducible repeat (first | refine blk_drewN ?_ _ | refine blk_drew ?_ | refine blk_alloc ?_ _)); refine blk_put (cs := #[.int .i64 x102000_2, .int .i64 x102001_2]) ?_ 0 _ rfl; (with_reducible repeat (first | refine blk_drewN ?_ _ | refine blk_drew ?_ | refine blk_alloc ?_ _)); exact BK101.out) Try.underlying31 rfl (by kernel_rfl) .nil)))) rfl ?_
                        exact ⟨by first | rfl | (simp [errW_none, errW_some] <;> rfl) | (simp [*, errW_none, errW_some] <;> rfl), by repeat (first | (with_reducible first | exact HB.out | apply below_alloc | apply pw_below_drewN | apply below_drew1 | refine below_set ?_ GE101.out) | exact HB.out)⟩
                      · rw [if_neg c18] at H
                        exact absurd H (by simp)
                  · rw [if_neg c12] at H
                    have c12b0 : ((wrap64 (rd l0 x9_2)) == 0) = false := beq_eq_false_iff_ne.mpr c12
                    have c12b1 : ((wrap64 (rd l0 x9_2)) != 0) = true := bne_iff_ne.mpr c12
                    by_cases c22 : (wrap64 (rd l0 x9_2)) ≥ 192
                    · rw [if_pos c22] at H
                      have c22b0 : decide (192 ≤ (wrap64 (rd l0 x9_2))) = true := decide_eq_true c22
                      clear c22
                      replace H := Option.bind_eq_some_iff.mp H
                      obtain ⟨⟨t109, t110, t111, t112⟩, A230, H⟩ := H
                      replace H : (if t111 = 0 then (if (Go.bits .and .i64 t109 16383) ≥ x8_2 then (some ((⟨#[]⟩ : ByteArray), 0, 150, x9_2)) else (if x10_2 < 0 then (wire_Read.l0 k2 l0 a1 x7_2 (Go.bits .and .i64 t109 16383) (Go.bits .and .i64 t109 16383) t110) else (wire_Read.l0 k2 l0 a1 x7_2 (Go.bits .and .i64 t109 16383) (Go.bits .and .i64 t109 16383) x10_2))) else (some ((⟨#[]⟩ : ByteArray), 0, t111, t112))) = some (r1, r2, r3, r4) := H
                      have A23 := Aside0.mk A230
                      clear A230
                      by_cases c24 : t111 = 0
                      · rw [if_pos c24] at H
                        have c24b0 : (t111 == 0) = true := beq_iff_eq.mpr c24
                        have c24b1 : (t111 != 0) = false := bne_eq_false_iff_eq.mpr c24
                        clear c24
                        by_cases c25 : (Go.bits .and .i64 t109 16383) ≥ x8_2
                        · rw [if_pos c25] at H
                          have c25b0 : decide (x8_2 ≤ (Go.bits .and .i64 t109 16383)) = true := decide_eq_true c25
                          clear c25
                          simp only [Option.some.injEq, Prod.mk.injEq] at H
                          obtain ⟨rfl, rfl, rfl, rfl⟩ := H
                          have p102 : 0 ≤ (x9_2 : Int) := of_decide_eq_true (by first | (with_reducible assumption) | assumption)
                          have q102 : x9_2 < (l0.length : Int) := of_decide_eq_true (by first | (with_reducible assumption) | assumption)
                          obtain ⟨ad102, e102, hx102_0⟩ := Kd.at_int HR0.out x9_2 p102 q102
                          cases e102
                          replace hx102_0 := (HB.out.cell (World.block_lt_of_cell? w _ hx102_0)).trans hx102_0
                          replace p102 := eq_true p102
                          replace q102 := eq_true q102
                          go_wp2_with (first | ((with_reducible refine gate_callee (f := 35) rfl ?_); refine goesL_ (some 76) rfl rfl Try.func35 (by kernel_rfl) rfl #[.slice (some ad102) l0.length c0, .int .i64 x9_2] rfl (by (try simp only [List.map_toArray, List.map_cons, List.map_nil]); first | done | rfl | (simp only [List.length_drop, List.length_take]; rfl)) ?_; (with_reducible refine (octet_Get16.calls _ _ l0 x9_2 t109 t110 t111 t112 _ ?side1 ?side2 A23.out).mono ?_); (case side1 => repeat (first | exact (Kd.C_below HR0.out HB.out) | (with_reducible refine Kd.C_alloc ?_ _) | (with_reducible refine Kd.C_drewN ?_ _) | (with_reducible refine Kd.C_drew ?_))); (case side2 => exact HC0.out); rintro e w26 ⟨rfl, hb⟩; refine ⟨_, rfl, ?_⟩; have n0_ := Aside0.mk (Kd.R_below (by (with_reducible repeat (first | apply Kd.R_alloc | apply Kd.R_drewN | apply Kd.R_drew)); exact HO_7.out) hb); have n1_ := Aside0.mk (blk_below (g := gb101) (o := .cells #[.int .i64 x102000_2, .int .i64 x102001_2] 31 (0, 0)) (by (with_reducible repeat (first | refine blk_drewN ?_ _ | refine blk_drew ?_ | refine blk_alloc ?_ _)); exact BK101.out) hb); have n2_ := Aside0.mk (below_step (by repeat (first | (with_reducible first | exact HB.out | apply below_alloc | apply pw_below_drewN | apply below_drew1 | refine below_set ?_ GE101.out) | exact HB.out)) hb); clear HO_7; clear BK101; clear HB; have HO_7 := n0_; have BK101 := n1_; have HB := n2_; clear n0_ n1_ n2_; (try clear hb); (try clear hb2); (try clear hk); (try clear hi)) | ((with_reducible refine gate_dst (N := 14) rfl ?_); (try (refine gate_guard (by rfl) ?_; dsimp only)); refine box_event ?hg (N := 14) ?hd (cs := #[.int .i64 0, .int .i64 0]) (t := 31) ?hr ?_; (case hd => rfl); (case hg => rfl); (case hr => first | (go_simp; done) | (go_simp; rfl)); intro gb113 hg w27 hbox hb; have n0_ := Aside0.mk (Kd.R_below (by (with_reducible repeat (first | apply Kd.R_alloc | apply Kd.R_drewN | apply Kd.R_drew)); exact HO_7.out) hb); have n1_ := Aside0.mk (blk_below (g := gb101) (o := .cells #[.int .i64 x102000_2, .int .i64 x102001_2] 31 (0, 0)) (by (with_reducible repeat (first | refine blk_drewN ?_ _ | refine blk_drew ?_ | refine blk_alloc ?_ _)); exact BK101.out) hb); have n2_ := Aside0.mk (below_step (by repeat (first | (with_reducible first | exact HB.out | apply below_alloc | apply pw_below_drewN | apply below_drew1 | refine below_set ?_ GE101.out) | exact HB.out)) hb); have n3_ := Aside0.mk (hbox); have n4_ := Aside0.mk ((by rw [hg]; exact (below_size (by repeat (first | (with_reducible first | exact HB.out | apply below_alloc | apply pw_below_drewN | apply below_drew1 | refine below_set ?_ GE101.out) | exact HB.out))) : w.heap.size ≤ gb113)); have n5_ := Aside0.mk ((by rw [hg]; exact (below_size (by repeat (first | (with_reducible first | exact HB.out | apply below_alloc | apply pw_below_drewN | apply below_drew1 | refine below_set ?_ GE101.out) | exact HB.out))) : w.heap.size ≤ gb113)); have n6_ := Aside0.mk ((by rw [hg]; exact Nat.ne_of_lt (blk_lt (g := gb101) (o := .cells #[.int .i64 x102000_2, .int .i64 x102001_2] 31 (0, 0)) (by (with_reducible repeat (first | refine blk_drewN ?_ _ | refine blk_drew ?_ | refine blk_alloc ?_ _)); exact BK101.out)) : gb101 ≠ gb113)); have n7_ := Aside0.mk ((by rw [hg]; exact Nat.ne_of_gt (blk_lt (g := gb101) (o := .cells #[.int .i64 x102000_2, .int .i64 x102001_2] 31 (0, 0)) (by (with_reducible repeat (first | refine blk_drewN ?_ _ | refine blk_drew ?_ | refine blk_alloc ?_ _)); exact BK101.out)) : gb113 ≠ gb101)); clear HO_7; clear BK101; clear HB; have HO_7 := n0_; have BK101 := n1_; have HB := n2_; have BK113 := n3_; have GW113 := n4_; have GE113 := n5_; have NB101_113 := n6_; have NB113_101 := n7_; clear n0_ n1_ n2_ n3_ n4_ n5_ n6_ n7_; clear hb hbox hg; have hnb28 := NB113_101.out; have hnc28 := NB101_113.out; have hcz29_0 : w27.cell? ⟨gb113, 0, none⟩ = some (.int .i64 0) := (blk_cell BK113.out 0).trans rfl; have hcz29_1 : w27.cell? ⟨gb113, 1, none⟩ = some (.int .i64 0) := (blk_cell BK113.out 1).trans rfl; have hfz29_0 := blk_frozen BK113.out 0; have hfz29_1 := blk_frozen BK113.out 1; have hcz30_0 : w27.cell? ⟨gb101, 0, none⟩ = some (.int .i64 x102000_2) := (blk_cell BK101.out 0).trans rfl; have hcz30_1 : w27.cell? ⟨gb101, 1, none⟩ = some (.int .i64 x102001_2) := (blk_cell BK101.out 1).trans rfl; have hfz30_0 := blk_frozen BK101.out 0; have hfz30_1 := blk_frozen BK101.out 1))
                          (try rw [Exit.noGoto_ret])
                          refine bodyPost_ret (results_list (rs := [.tmp 4, .tmp 5, .cell 6 31]) rfl (by simp) (.tmp (.tmp (.cell gb101 31 #[.int .i64 150, .int .i64 x9_2] (0, 0) _ rfl (by (with_reducible repeat (first | refine blk_drewN ?_ _ | refine blk_drew ?_ | refine blk_alloc ?_ _)); refine blk_put (cs := #[.int .i64 150, .int .i64 x102001_2]) ?_ 1 _ rfl; (with_reducible repeat (first | refine blk_drewN ?_ _ | refine blk_drew ?_ | refine blk_alloc ?_ _)); refine blk_put (cs := #[.int .i64 x102000_2, .int .i64 x102001_2]) ?_ 0 _ rfl; (with_reducible repeat (first | refine blk_drewN ?_ _ | refine blk_drew ?_ | refine blk_alloc ?_ _)); refine blk_far ?_ NB101_113.out _; (with_reducible repeat (first | refine blk_drewN ?_ _ | refine blk_drew ?_ | refine blk_alloc ?_ _)); refine blk_far ?_ NB101_113.out _; (with_reducible repeat (first | refine blk_drewN ?_ _ | refine blk_drew ?_ | refine blk_alloc ?_ _)); exact BK101.out) Try.underlying31 rfl (by kernel_rfl) .nil)))) rfl ?_
                          exact ⟨by first | rfl | (simp [errW_none, errW_some] <;> rfl) | (simp [*, errW_none, errW_some] <;> rfl), by repeat (first | (with_reducible first | exact HB.out | apply below_alloc | apply pw_below_drewN | apply below_drew1 | refine below_set ?_ GE101.out | refine below_set ?_ GE113.out) | exact HB.out)⟩
                        · rw [if_neg c25] at H
                          have c25b0 : decide (x8_2 ≤ (Go.bits .and .i64 t109 16383)) = false := decide_eq_false c25
                          clear c25
                          by_cases c31 : x10_2 < 0
                          · rw [if_pos c31] at H
                            have c31b0 : decide (x10_2 < 0) = true := decide_eq_true c31
                            clear c31
                            have H' := Aside0.mk H
                            clear H
                            have p102 : 0 ≤ (x9_2 : Int) := of_decide_eq_true (by first | (with_reducible assumption) | assumption)
                            have q102 : x9_2 < (l0.length : Int) := of_decide_eq_true (by first | (with_reducible assumption) | assumption)
                            obtain ⟨ad102, e102, hx102_0⟩ := Kd.at_int HR0.out x9_2 p102 q102
                            cases e102
                            replace hx102_0 := (HB.out.cell (World.block_lt_of_cell? w _ hx102_0)).trans hx102_0
                            replace p102 := eq_true p102
                            replace q102 := eq_true q102
                            go_wp2_with (first | ((with_reducible refine gate_callee (f := 35) rfl ?_); refine goesL_ (some 76) rfl rfl Try.func35 (by kernel_rfl) rfl #[.slice (some ad102) l0.length c0, .int .i64 x9_2] rfl (by (try simp only [List.map_toArray, List.map_cons, List.map_nil]); first | done | rfl | (simp only [List.length_drop, List.length_take]; rfl)) ?_; (with_reducible refine (octet_Get16.calls _ _ l0 x9_2 t109 t110 t111 t112 _ ?side1 ?side2 A23.out).mono ?_); (case side1 => repeat (first | exact (Kd.C_below HR0.out HB.out) | (with_reducible refine Kd.C_alloc ?_ _) | (with_reducible refine Kd.C_drewN ?_ _) | (with_reducible refine Kd.C_drew ?_))); (case side2 => exact HC0.out); rintro e w32 ⟨rfl, hb⟩; refine ⟨_, rfl, ?_⟩; have n0_ := Aside0.mk (Kd.R_below (by (with_reducible repeat (first | apply Kd.R_alloc | apply Kd.R_drewN | apply Kd.R_drew)); exact HO_7.out) hb); have n1_ := Aside0.mk (blk_below (g := gb101) (o := .cells #[.int .i64 x102000_2, .int .i64 x102001_2] 31 (0, 0)) (by (with_reducible repeat (first | refine blk_drewN ?_ _ | refine blk_drew ?_ | refine blk_alloc ?_ _)); exact BK101.out) hb); have n2_ := Aside0.mk (below_step (by repeat (first | (with_reducible first | exact HB.out | apply below_alloc | apply pw_below_drewN | apply below_drew1 | refine below_set ?_ GE101.out) | exact HB.out)) hb); clear HO_7; clear BK101; clear HB; have HO_7 := n0_; have BK101 := n1_; have HB := n2_; clear n0_ n1_ n2_; (try clear hb); (try clear hb2); (try clear hk); (try clear hi)) | ((with_reducible refine gate_dst (N := 14) rfl ?_); (try (refine gate_guard (by rfl) ?_; dsimp only)); refine box_event ?hg (N := 14) ?hd (cs := #[.int .i64 0, .int .i64 0]) (t := 31) ?hr ?_; (case hd => rfl); (case hg => rfl); (case hr => first | (go_simp; done) | (go_simp; rfl)); intro gb113 hg w33 hbox hb; have n0_ := Aside0.mk (Kd.R_below (by (with_reducible repeat (first | apply Kd.R_alloc | apply Kd.R_drewN | apply Kd.R_drew)); exact HO_7.out) hb); have n1_ := Aside0.mk (blk_below (g := gb101) (o := .cells #[.int .i64 x102000_2, .int .i64 x102001_2] 31 (0, 0)) (by (with_reducible repeat (first | refine blk_drewN ?_ _ | refine blk_drew ?_ | refine blk_alloc ?_ _)); exact BK101.out) hb); have n2_ := Aside0.mk (below_step (by repeat (first | (with_reducible first | exact HB.out | apply below_alloc | apply pw_below_drewN | apply below_drew1 | refine below_set ?_ GE101.out) | exact HB.out)) hb); have n3_ := Aside0.mk (hbox); have n4_ := Aside0.mk ((by rw [hg]; exact (below_size (by repeat (first | (with_reducible first | exact HB.out | apply below_alloc | apply pw_below_drewN | apply below_drew1 | refine below_set ?_ GE101.out) | exact HB.out))) : w.heap.size ≤ gb113)); have n5_ := Aside0.mk ((by rw [hg]; exact (below_size (by repeat (first | (with_reducible first | exact HB.out | apply below_alloc | apply pw_below_drewN | apply below_drew1 | refine below_set ?_ GE101.out) | exact HB.out))) : w.heap.size ≤ gb113)); have n6_ := Aside0.mk ((by rw [hg]; exact Nat.ne_of_lt (blk_lt (g := gb101) (o := .cells #[.int .i64 x102000_2, .int .i64 x102001_2] 31 (0, 0)) (by (with_reducible repeat (first | refine blk_drewN ?_ _ | refine blk_drew ?_ | refine blk_alloc ?_ _)); exact BK101.out)) : gb101 ≠ gb113)); have n7_ := Aside0.mk ((by rw [hg]; exact Nat.ne_of_gt (blk_lt (g := gb101) (o := .cells #[.int .i64 x102000_2, .int .i64 x102001_2] 31 (0, 0)) (by (with_reducible repeat (first | refine blk_drewN ?_ _ | refine blk_drew ?_ | refine blk_alloc ?_ _)); exact BK101.out)) : gb113 ≠ gb101)); clear HO_7; clear BK101; clear HB; have HO_7 := n0_; have BK101 := n1_; have HB := n2_; have BK113 := n3_; have GW113 := n4_; have GE113 := n5_; have NB101_113 := n6_; have NB113_101 := n7_; clear n0_ n1_ n2_ n3_ n4_ n5_ n6_ n7_; clear hb hbox hg; have hnb34 := NB113_101.out; have hnc34 := NB101_113.out; have hcz35_0 : w33.cell? ⟨gb113, 0, none⟩ = some (.int .i64 0) := (blk_cell BK113.out 0).trans rfl; have hcz35_1 : w33.cell? ⟨gb113, 1, none⟩ = some (.int .i64 0) := (blk_cell BK113.out 1).trans rfl; have hfz35_0 := blk_frozen BK113.out 0; have hfz35_1 := blk_frozen BK113.out 1))
                            go_roundg k2
                            case measure => have := HJ2.out; have := HK2.out; omega
                            case rel => exact ⟨(x7_2), (Go.bits .and .i64 t109 16383), (Go.bits .and .i64 t109 16383), (t110), (x102000_2), (x102001_2), (by first | rfl | (simp; done) | (simp [*]; done)), (by first | rfl | (simp; done) | (simp [*]; done)), (by first | rfl | (simp; done) | (simp [*]; done)), H', ⟨by have := HJ2.out; have := HK2.out; omega⟩, ⟨by (with_reducible repeat (first | apply Kd.R_alloc | apply Kd.R_drewN | apply Kd.R_drew)); exact Kd.R_mono (Kd.R_far (p := ⟨gb113, 1, none⟩) (Kd.R_far (p := ⟨gb113, 0, none⟩) (Kd.R_types HO_7.out BK113.out (by decide)) (fun _ hk => hk.2) (.int .i64 t111)) (fun _ hk => hk.2) (.int .i64 t112)) (fun _ hk => trivial)⟩, ⟨by (with_reducible repeat (first | refine blk_drewN ?_ _ | refine blk_drew ?_ | refine blk_alloc ?_ _)); refine blk_far ?_ NB101_113.out _; (with_reducible repeat (first | refine blk_drewN ?_ _ | refine blk_drew ?_ | refine blk_alloc ?_ _)); refine blk_far ?_ NB101_113.out _; (with_reducible repeat (first | refine blk_drewN ?_ _ | refine blk_drew ?_ | refine blk_alloc ?_ _)); exact BK101.out⟩, ⟨by repeat (first | (with_reducible first | exact HB.out | apply below_alloc | apply pw_below_drewN | apply below_drew1 | refine below_set ?_ GE101.out | refine below_set ?_ GE113.out) | exact HB.out)⟩⟩
                          · rw [if_neg c31] at H
                            have c31b0 : decide (x10_2 < 0) = false := decide_eq_false c31
                            clear c31
                            have H' := Aside0.mk H
                            clear H
                            have p102 : 0 ≤ (x9_2 : Int) := of_decide_eq_true (by first | (with_reducible assumption) | assumption)
                            have q102 : x9_2 < (l0.length : Int) := of_decide_eq_true (by first | (with_reducible assumption) | assumption)
                            obtain ⟨ad102, e102, hx102_0⟩ := Kd.at_int HR0.out x9_2 p102 q102
                            cases e102
                            replace hx102_0 := (HB.out.cell (World.block_lt_of_cell? w _ hx102_0)).trans hx102_0
                            replace p102 := eq_true p102
                            replace q102 := eq_true q102
                            go_wp2_with (first | ((with_reducible refine gate_callee (f := 35) rfl ?_); refine goesL_ (some 76) rfl rfl Try.func35 (by kernel_rfl) rfl #[.slice (some ad102) l0.length c0, .int .i64 x9_2] rfl (by (try simp only [List.map_toArray, List.map_cons, List.map_nil]); first | done | rfl | (simp only [List.length_drop, List.length_take]; rfl)) ?_; (with_reducible refine (octet_Get16.calls _ _ l0 x9_2 t109 t110 t111 t112 _ ?side1 ?side2 A23.out).mono ?_); (case side1 => repeat (first | exact (Kd.C_below HR0.out HB.out) | (with_reducible refine Kd.C_alloc ?_ _) | (with_reducible refine Kd.C_drewN ?_ _) | (with_reducible refine Kd.C_drew ?_))); (case side2 => exact HC0.out); rintro e w36 ⟨rfl, hb⟩; refine ⟨_, rfl, ?_⟩; have n0_ := Aside0.mk (Kd.R_below (by (with_reducible repeat (first | apply Kd.R_alloc | apply Kd.R_drewN | apply Kd.R_drew)); exact HO_7.out) hb); have n1_ := Aside0.mk (blk_below (g := gb101) (o := .cells #[.int .i64 x102000_2, .int .i64 x102001_2] 31 (0, 0)) (by (with_reducible repeat (first | refine blk_drewN ?_ _ | refine blk_drew ?_ | refine blk_alloc ?_ _)); exact BK101.out) hb); have n2_ := Aside0.mk (below_step (by repeat (first | (with_reducible first | exact HB.out | apply below_alloc | apply pw_below_drewN | apply below_drew1 | refine below_set ?_ GE101.out) | exact HB.out)) hb); clear HO_7; clear BK101; clear HB; have HO_7 := n0_; have BK101 := n1_; have HB := n2_; clear n0_ n1_ n2_; (try clear hb); (try clear hb2); (try clear hk); (try clear hi)) | ((with_reducible refine gate_dst (N := 14) rfl ?_); (try (refine gate_guard (by rfl) ?_; dsimp only)); refine box_event ?hg (N := 14) ?hd (cs := #[.int .i64 0, .int .i64 0]) (t := 31) ?hr ?_; (case hd => rfl); (case hg => rfl); (case hr => first | (go_simp; done) | (go_simp; rfl)); intro gb113 hg w37 hbox hb; have n0_ := Aside0.mk (Kd.R_below (by (with_reducible repeat (first | apply Kd.R_alloc | apply Kd.R_drewN | apply Kd.R_drew)); exact HO_7.out) hb); have n1_ := Aside0.mk (blk_below (g := gb101) (o := .cells #[.int .i64 x102000_2, .int .i64 x102001_2] 31 (0, 0)) (by (with_reducible repeat (first | refine blk_drewN ?_ _ | refine blk_drew ?_ | refine blk_alloc ?_ _)); exact BK101.out) hb); have n2_ := Aside0.mk (below_step (by repeat (first | (with_reducible first | exact HB.out | apply below_alloc | apply pw_below_drewN | apply below_drew1 | refine below_set ?_ GE101.out) | exact HB.out)) hb); have n3_ := Aside0.mk (hbox); have n4_ := Aside0.mk ((by rw [hg]; exact (below_size (by repeat (first | (with_reducible first | exact HB.out | apply below_alloc | apply pw_below_drewN | apply below_drew1 | refine below_set ?_ GE101.out) | exact HB.out))) : w.heap.size ≤ gb113)); have n5_ := Aside0.mk ((by rw [hg]; exact (below_size (by repeat (first | (with_reducible first | exact HB.out | apply below_alloc | apply pw_below_drewN | apply below_drew1 | refine below_set ?_ GE101.out) | exact HB.out))) : w.heap.size ≤ gb113)); have n6_ := Aside0.mk ((by rw [hg]; exact Nat.ne_of_lt (blk_lt (g := gb101) (o := .cells #[.int .i64 x102000_2, .int .i64 x102001_2] 31 (0, 0)) (by (with_reducible repeat (first | refine blk_drewN ?_ _ | refine blk_drew ?_ | refine blk_alloc ?_ _)); exact BK101.out)) : gb101 ≠ gb113)); have n7_ := Aside0.mk ((by rw [hg]; exact Nat.ne_of_gt (blk_lt (g := gb101) (o := .cells #[.int .i64 x102000_2, .int .i64 x102001_2] 31 (0, 0)) (by (with_reducible repeat (first | refine blk_drewN ?_ _ | refine blk_drew ?_ | refine blk_alloc ?_ _)); exact BK101.out)) : gb113 ≠ gb101)); clear HO_7; clear BK101; clear HB; have HO_7 := n0_; have BK101 := n1_; have HB := n2_; have BK113 := n3_; have GW113 := n4_; have GE113 := n5_; have NB101_113 := n6_; have NB113_101 := n7_; clear n0_ n1_ n2_ n3_ n4_ n5_ n6_ n7_; clear hb hbox hg; have hnb38 := NB113_101.out; have hnc38 := NB101_113.out; have hcz39_0 : w37.cell? ⟨gb113, 0, none⟩ = some (.int .i64 0) := (blk_cell BK113.out 0).trans rfl; have hcz39_1 : w37.cell? ⟨gb113, 1, none⟩ = some (.int .i64 0) := (blk_cell BK113.out 1).trans rfl; have hfz39_0 := blk_frozen BK113.out 0; have hfz39_1 := blk_frozen BK113.out 1))
                            go_roundg k2
                            case measure => have := HJ2.out; have := HK2.out; omega
                            case rel => exact ⟨(x7_2), (Go.bits .and .i64 t109 16383), (Go.bits .and .i64 t109 16383), (x10_2), (x102000_2), (x102001_2), (by first | rfl | (simp; done) | (simp [*]; done)), (by first | rfl | (simp; done) | (simp [*]; done)), (by first | rfl | (simp; done) | (simp [*]; done)), H', ⟨by have := HJ2.out; have := HK2.out; omega⟩, ⟨by (with_reducible repeat (first | apply Kd.R_alloc | apply Kd.R_drewN | apply Kd.R_drew)); exact Kd.R_mono (Kd.R_far (p := ⟨gb113, 1, none⟩) (Kd.R_far (p := ⟨gb113, 0, none⟩) (Kd.R_types HO_7.out BK113.out (by decide)) (fun _ hk => hk.2) (.int .i64 t111)) (fun _ hk => hk.2) (.int .i64 t112)) (fun _ hk => trivial)⟩, ⟨by (with_reducible repeat (first | refine blk_drewN ?_ _ | refine blk_drew ?_ | refine blk_alloc ?_ _)); refine blk_far ?_ NB101_113.out _; (with_reducible repeat (first | refine blk_drewN ?_ _ | refine blk_drew ?_ | refine blk_alloc ?_ _)); refine blk_far ?_ NB101_113.out _; (with_reducible repeat (first | refine blk_drewN ?_ _ | refine blk_drew ?_ | refine blk_alloc ?_ _)); exact BK101.out⟩, ⟨by repeat (first | (with_reducible first | exact HB.out | apply below_alloc | apply pw_below_drewN | apply below_drew1 | refine below_set ?_ GE101.out | refine below_set ?_ GE113.out) | exact HB.out)⟩⟩
                      · rw [if_neg c24] at H
                        have c24b0 : (t111 == 0) = false := beq_eq_false_iff_ne.mpr c24
                        have c24b1 : (t111 != 0) = true := bne_iff_ne.mpr c24
                        simp only [Option.some.injEq, Prod.mk.injEq] at H
                        obtain ⟨rfl, rfl, rfl, rfl⟩ := H
                        have p102 : 0 ≤ (x9_2 : Int) := of_decide_eq_true (by first | (with_reducible assumption) | assumption)
                        have q102 : x9_2 < (l0.length : Int) := of_decide_eq_true (by first | (with_reducible assumption) | assumption)
                        obtain ⟨ad102, e102, hx102_0⟩ := Kd.at_int HR0.out x9_2 p102 q102
                        cases e102
                        replace hx102_0 := (HB.out.cell (World.block_lt_of_cell? w _ hx102_0)).trans hx102_0
                        replace p102 := eq_true p102
                        replace q102 := eq_true q102
                        try go_wp2_with (first | ((with_reducible refine gate_callee (f := 35) rfl ?_); refine goesL_ (some 76) rfl rfl Try.func35 (by kernel_rfl) rfl #[.slice (some ad102) l0.length c0, .int .i64 x9_2] rfl (by (try simp only [List.map_toArray, List.map_cons, List.map_nil]); first | done | rfl | (simp only [List.length_drop, List.length_take]; rfl)) ?_; (with_reducible refine (octet_Get16.calls _ _ l0 x9_2 t109 t110 t111 t112 _ ?side1 ?side2 A23.out).mono ?_); (case side1 => repeat (first | exact (Kd.C_below HR0.out HB.out) | (with_reducible refine Kd.C_alloc ?_ _) | (with_reducible refine Kd.C_drewN ?_ _) | (with_reducible refine Kd.C_drew ?_))); (case side2 => exact HC0.out); rintro e w40 ⟨rfl, hb⟩; refine ⟨_, rfl, ?_⟩; have n0_ := Aside0.mk (Kd.R_below (by (with_reducible repeat (first | apply Kd.R_alloc | apply Kd.R_drewN | apply Kd.R_drew)); exact HO_7.out) hb); have n1_ := Aside0.mk (blk_below (g := gb101) (o := .cells #[.int .i64 x102000_2, .int .i64 x102001_2] 31 (0, 0)) (by (with_reducible repeat (first | refine blk_drewN ?_ _ | refine blk_drew ?_ | refine blk_alloc ?_ _)); exact BK101.out) hb); have n2_ := Aside0.mk (below_step (by repeat (first | (with_reducible first | exact HB.out | apply below_alloc | apply pw_below_drewN | apply below_drew1 | refine below_set ?_ GE101.out) | exact HB.out)) hb); clear HO_7; clear BK101; clear HB; have HO_7 := n0_; have BK101 := n1_; have HB := n2_; clear n0_ n1_ n2_; (try clear hb); (try clear hb2); (try clear hk); (try clear hi)) | ((with_reducible refine gate_dst (N := 14) rfl ?_); (try (refine gate_guard (by rfl) ?_; dsimp only)); refine box_event ?hg (N := 14) ?hd (cs := #[.int .i64 0, .int .i64 0]) (t := 31) ?hr ?_; (case hd => rfl); (case hg => rfl); (case hr => first | (go_simp; done) | (go_simp; rfl)); intro gb113 hg w41 hbox hb; have n0_ := Aside0.mk (Kd.R_below (by (with_reducible repeat (first | apply Kd.R_alloc | apply Kd.R_drewN | apply Kd.R_drew)); exact HO_7.out) hb); have n1_ := Aside0.mk (blk_below (g := gb101) (o := .cells #[.int .i64 x102000_2, .int .i64 x102001_2] 31 (0, 0)) (by (with_reducible repeat (first | refine blk_drewN ?_ _ | refine blk_drew ?_ | refine blk_alloc ?_ _)); exact BK101.out) hb); have n2_ := Aside0.mk (below_step (by repeat (first | (with_reducible first | exact HB.out | apply below_alloc | apply pw_below_drewN | apply below_drew1 | refine below_set ?_ GE101.out) | exact HB.out)) hb); have n3_ := Aside0.mk (hbox); have n4_ := Aside0.mk ((by rw [hg]; exact (below_size (by repeat (first | (with_reducible first | exact HB.out | apply below_alloc | apply pw_below_drewN | apply below_drew1 | refine below_set ?_ GE101.out) | exact HB.out))) : w.heap.size ≤ gb113)); have n5_ := Aside0.mk ((by rw [hg]; exact (below_size (by repeat (first | (with_reducible first | exact HB.out | apply below_alloc | apply pw_below_drewN | apply below_drew1 | refine below_set ?_ GE101.out) | exact HB.out))) : w.heap.size ≤ gb113)); have n6_ := Aside0.mk ((by rw [hg]; exact Nat.ne_of_lt (blk_lt (g := gb101) (o := .cells #[.int .i64 x102000_2, .int .i64 x102001_2] 31 (0, 0)) (by (with_reducible repeat (first | refine blk_drewN ?_ _ | refine blk_drew ?_ | refine blk_alloc ?_ _)); exact BK101.out)) : gb101 ≠ gb113)); have n7_ := Aside0.mk ((by rw [hg]; exact Nat.ne_of_gt (blk_lt (g := gb101) (o := .cells #[.int .i64 x102000_2, .int .i64 x102001_2] 31 (0, 0)) (by (with_reducible repeat (first | refine blk_drewN ?_ _ | refine blk_drew ?_ | refine blk_alloc ?_ _)); exact BK101.out)) : gb113 ≠ gb101)); clear HO_7; clear BK101; clear HB; have HO_7 := n0_; have BK101 := n1_; have HB := n2_; have BK113 := n3_; have GW113 := n4_; have GE113 := n5_; have NB101_113 := n6_; have NB113_101 := n7_; clear n0_ n1_ n2_ n3_ n4_ n5_ n6_ n7_; clear hb hbox hg; have hnb42 := NB113_101.out; have hnc42 := NB101_113.out; have hcz43_0 : w41.cell? ⟨gb113, 0, none⟩ = some (.int .i64 0) := (blk_cell BK113.out 0).trans rfl; have hcz43_1 : w41.cell? ⟨gb113, 1, none⟩ = some (.int .i64 0) := (blk_cell BK113.out 1).trans rfl; have hfz43_0 := blk_frozen BK113.out 0; have hfz43_1 := blk_frozen BK113.out 1))
                        have n0_ : Aside0 (Kd.R (Kd.int .u8) 5 ((w41.setCell ⟨gb113, 0, none⟩ (.int .i64 t111)).setCell ⟨gb113, 1, none⟩ (.int .i64 t112)) w.heap.size (fun _ => True) u7 x7_2) := ⟨by (with_reducible repeat (first | apply Kd.R_alloc | apply Kd.R_drewN | apply Kd.R_drew)); exact Kd.R_mono (Kd.R_far (p := ⟨gb113, 1, none⟩) (Kd.R_far (p := ⟨gb113, 0, none⟩) (Kd.R_types HO_7.out BK113.out (by decide)) (fun _ hk => hk.2) (.int .i64 t111)) (fun _ hk => hk.2) (.int .i64 t112)) (fun _ hk => trivial)⟩
                        have n1_ : Aside0 (((w41.setCell ⟨gb113, 0, none⟩ (.int .i64 t111)).setCell ⟨gb113, 1, none⟩ (.int .i64 t112)).heap[gb101]? = some (.cells #[.int .i64 x102000_2, .int .i64 x102001_2] 31 (0, 0))) := ⟨by (with_reducible repeat (first | refine blk_drewN ?_ _ | refine blk_drew ?_ | refine blk_alloc ?_ _)); refine blk_far ?_ NB101_113.out _; (with_reducible repeat (first | refine blk_drewN ?_ _ | refine blk_drew ?_ | refine blk_alloc ?_ _)); refine blk_far ?_ NB101_113.out _; (with_reducible repeat (first | refine blk_drewN ?_ _ | refine blk_drew ?_ | refine blk_alloc ?_ _)); exact BK101.out⟩
                        have n2_ : Aside0 (((w41.setCell ⟨gb113, 0, none⟩ (.int .i64 t111)).setCell ⟨gb113, 1, none⟩ (.int .i64 t112)).heap[gb113]? = some (.cells #[.int .i64 t111, .int .i64 t112] 31 (0, 0))) := ⟨by (with_reducible repeat (first | refine blk_drewN ?_ _ | refine blk_drew ?_ | refine blk_alloc ?_ _)); refine blk_put (cs := #[.int .i64 t111, .int .i64 0]) ?_ 1 _ rfl; (with_reducible repeat (first | refine blk_drewN ?_ _ | refine blk_drew ?_ | refine blk_alloc ?_ _)); refine blk_put (cs := #[.int .i64 0, .int .i64 0]) ?_ 0 _ rfl; (with_reducible repeat (first | refine blk_drewN ?_ _ | refine blk_drew ?_ | refine blk_alloc ?_ _)); exact BK113.out⟩
                        have n3_ : Aside0 (Below w.heap.size w ((w41.setCell ⟨gb113, 0, none⟩ (.int .i64 t111)).setCell ⟨gb113, 1, none⟩ (.int .i64 t112))) := ⟨by repeat (first | (with_reducible first | exact HB.out | apply below_alloc | apply pw_below_drewN | apply below_drew1 | refine below_set ?_ GE101.out | refine below_set ?_ GE113.out) | exact HB.out)⟩
                        (try clear HO_7)
                        (try clear BK101)
                        (try clear BK113)
                        (try clear HB)
                        generalize ((w41.setCell ⟨gb113, 0, none⟩ (.int .i64 t111)).setCell ⟨gb113, 1, none⟩ (.int .i64 t112)) = w44 at n0_ n1_ n2_ n3_ ⊢
                        have HO_7 := n0_
                        have BK101 := n1_
                        have BK113 := n2_
                        have HB := n3_
                        clear n0_ n1_ n2_ n3_
                        have n0_ := Aside0.mk (Kd.R_drew HO_7.out)
                        have n1_ := Aside0.mk (blk_drew BK101.out)
                        have n2_ := Aside0.mk (blk_drew BK113.out)
                        have n3_ := Aside0.mk (below_drew1 HB.out)
                        clear HO_7
                        clear BK101
                        clear BK113
                        clear HB
                        have HO_7 := n0_
                        have BK101 := n1_
                        have BK113 := n2_
                        have HB := n3_
                        clear n0_ n1_ n2_ n3_
                        refine start_ (n := 4) (S := fun w' => w'.cell? ⟨gb113, 0, none⟩ = some (.int .i64 t111) ∧ w'.cell? ⟨gb113, 1, none⟩ = some (.int .i64 t112)) (ds := []) #[false, false, false, false] (by kernel_rfl) rfl rfl ⟨(blk_cell BK113.out 0).trans rfl, (blk_cell BK113.out 1).trans rfl⟩ (fun hHeld => ?_)
                        generalize w44.drew = w45 at HO_7 BK101 BK113 HB hHeld ⊢
                        refine pure_ (i := 1) (N := some 4) (v := ?_) (a' := ?_) #[false, true, false, false] rfl rfl (by kernel_rfl) (fun _ _ _ h => h) (Or.inl ⟨by rfl, ?_⟩) ?_ ?_
                        rotate_left
                        · intro w'
                          go_simp
                          with_reducible rfl
                        rotate_left
                        · simp only [Act.put, List.setIfInBounds_toArray, List.set_cons_zero, List.set_cons_succ, i64_w, i32_w]
                          rfl
                        refine pure_ (i := 2) (N := some 5) (v := ?_) (a' := ?_) #[false, true, true, false] rfl rfl (by kernel_rfl) (fun _ _ _ h => h) (Or.inl ⟨by rfl, ?_⟩) ?_ ?_
                        rotate_left
                        · intro w'
                          go_simp
                          with_reducible rfl
                        rotate_left
                        · simp only [Act.put, List.setIfInBounds_toArray, List.set_cons_zero, List.set_cons_succ, i64_w, i32_w]
                          rfl
                        refine take_ (i := 0) (N := some 83) (v := ?_) (a' := ?_) #[true, true, true, false] rfl rfl (by kernel_rfl) (fun _ _ _ h => h) (Or.inl ⟨by rfl, ?_⟩) hHeld ?_ ?_
                        rotate_left
                        · rintro w' ⟨s0, s1⟩
                          go_simp
                          with_reducible rfl
                        rotate_left
                        · simp only [Act.put, List.setIfInBounds_toArray, List.set_cons_zero, List.set_cons_succ, i64_w, i32_w]
                          rfl
                        refine one_ (i := 3) (N := none) #[true, true, true, true] rfl rfl (by kernel_rfl) (by decide) (fun K hK => ?_)
                        have hs46 : w45.cell? ⟨gb101, 0, none⟩ = some (.int .i64 x102000_2) := (blk_cell BK101.out 0).trans rfl
                        have hfs46 := blk_frozen BK101.out 0
                        have hns46_1 := NB113_101.out
                        have hms46_1 := NB101_113.out
                        have hs47 : w45.cell? ⟨gb101, 1, none⟩ = some (.int .i64 x102001_2) := (blk_cell BK101.out 1).trans rfl
                        have hfs47 := blk_frozen BK101.out 1
                        have hns47_1 := NB113_101.out
                        have hms47_1 := NB101_113.out
                        refine skip_ (w1 := ?_) (by rfl) rfl ?_ ?_
                        rotate_left
                        · go_simp
                          rfl
                        refine hK.out _ _ ⟨((cell_far (p := ⟨gb101, _, none⟩) NB113_101.out _).trans (((cell_far (p := ⟨gb101, _, none⟩) NB113_101.out _).trans (hHeld.1)))), ((cell_far (p := ⟨gb101, _, none⟩) NB113_101.out _).trans (((cell_far (p := ⟨gb101, _, none⟩) NB113_101.out _).trans (hHeld.2))))⟩ (fun hHeld => ?_)
                        clear hK K
                        refine done_ (by kernel_rfl) ?_
                        try go_wp2
                        (try rw [Exit.noGoto_ret])
                        refine bodyPost_ret (results_list (rs := [.tmp 4, .tmp 5, .cell 6 31]) rfl (by simp) (.tmp (.tmp (.cell gb101 31 #[.int .i64 t111, .int .i64 t112] (0, 0) _ rfl (by (with_reducible repeat (first | refine blk_drewN ?_ _ | refine blk_drew ?_ | refine blk_alloc ?_ _)); refine blk_put (cs := #[.int .i64 t111, .int .i64 x102001_2]) ?_ 1 _ rfl; (with_reducible repeat (first | refine blk_drewN ?_ _ | refine blk_drew ?_ | refine blk_alloc ?_ _)); refine blk_put (cs := #[.int .i64 x102000_2, .int .i64 x102001_2]) ?_ 0 _ rfl; (with_reducible repeat (first | refine blk_drewN ?_ _ | refine blk_drew ?_ | refine blk_alloc ?_ _)); exact BK101.out) Try.underlying31 rfl (by kernel_rfl) .nil)))) rfl ?_
                        exact ⟨by first | rfl | (simp [errW_none, errW_some] <;> rfl) | (simp [*, errW_none, errW_some] <;> rfl), by repeat (first | (with_reducible first | exact HB.out | apply below_alloc | apply pw_below_drewN | apply below_drew1 | refine below_set ?_ GE101.out | refine below_set ?_ GE113.out) | exact HB.out)⟩
                    · rw [if_neg c22] at H
                      have c22b0 : decide (192 ≤ (wrap64 (rd l0 x9_2))) = false := decide_eq_false c22
                      clear c22
                      by_cases c48 : (wrap64 (rd l0 x9_2)) > 63
                      · rw [if_pos c48] at H
                        have c48b0 : decide (63 < (wrap64 (rd l0 x9_2))) = true := decide_eq_true c48
                        clear c48
                        simp only [Option.some.injEq, Prod.mk.injEq] at H
                        obtain ⟨rfl, rfl, rfl, rfl⟩ := H
                        have p102 : 0 ≤ (x9_2 : Int) := of_decide_eq_true (by first | (with_reducible assumption) | assumption)
                        have q102 : x9_2 < (l0.length : Int) := of_decide_eq_true (by first | (with_reducible assumption) | assumption)
                        obtain ⟨ad102, e102, hx102_0⟩ := Kd.at_int HR0.out x9_2 p102 q102
                        cases e102
                        replace hx102_0 := (HB.out.cell (World.block_lt_of_cell? w _ hx102_0)).trans hx102_0
                        replace p102 := eq_true p102
                        replace q102 := eq_true q102
                        have hcz49_0 : wr.cell? ⟨gb101, 0, none⟩ = some (.int .i64 x102000_2) := (blk_cell BK101.out 0).trans rfl
                        have hcz49_1 : wr.cell? ⟨gb101, 1, none⟩ = some (.int .i64 x102001_2) := (blk_cell BK101.out 1).trans rfl
                        have hfz49_0 := blk_frozen BK101.out 0
                        have hfz49_1 := blk_frozen BK101.out 1
                        go_wp2
                        (try rw [Exit.noGoto_ret])
                        refine bodyPost_ret (results_list (rs := [.tmp 4, .tmp 5, .cell 6 31]) rfl (by simp) (.tmp (.tmp (.cell gb101 31 #[.int .i64 4, .int .i64 x9_2] (0, 0) _ rfl (by (with_reducible repeat (first | refine blk_drewN ?_ _ | refine blk_drew ?_ | refine blk_alloc ?_ _)); refine blk_put (cs := #[.int .i64 4, .int .i64 x102001_2]) ?_ 1 _ rfl; (with_reducible repeat (first | refine blk_drewN ?_ _ | refine blk_drew ?_ | refine blk_alloc ?_ _)); refine blk_put (cs := #[.int .i64 x102000_2, .int .i64 x102001_2]) ?_ 0 _ rfl; (with_reducible repeat (first | refine blk_drewN ?_ _ | refine blk_drew ?_ | refine blk_alloc ?_ _)); exact BK101.out) Try.underlying31 rfl (by kernel_rfl) .nil)))) rfl ?_
                        exact ⟨by first | rfl | (simp [errW_none, errW_some] <;> rfl) | (simp [*, errW_none, errW_some] <;> rfl), by repeat (first | (with_reducible first | exact HB.out | apply below_alloc | apply pw_below_drewN | apply below_drew1 | refine below_set ?_ GE101.out) | exact HB.out)⟩
                      · rw [if_neg c48] at H
                        have c48b0 : decide (63 < (wrap64 (rd l0 x9_2))) = false := decide_eq_false c48
                        clear c48
                        replace H := Option.bind_eq_some_iff.mp H
                        obtain ⟨⟨t114, t117, t118, t119⟩, A500, H⟩ := H
                        replace H : (if t118 = 0 then (if x7_2.length + t114.length < 140737488355328 then ((some (x7_2 ++ t114 : List Int)).bind fun y121 => (if (y121.length : Int) > 254 then (some ((⟨#[]⟩ : ByteArray), 0, 3, a1)) else (wire_Read.l0 k2 l0 a1 y121 x8_2 t117 x10_2))) else (none)) else (some ((⟨#[]⟩ : ByteArray), 0, t118, t119))) = some (r1, r2, r3, r4) := H
                        have A50 := Aside0.mk A500
                        clear A500
                        by_cases c51 : t118 = 0
                        · rw [if_pos c51] at H
                          have c51b0 : (t118 == 0) = true := beq_iff_eq.mpr c51
                          have c51b1 : (t118 != 0) = false := bne_eq_false_iff_eq.mpr c51
                          clear c51
                          by_cases c52 : x7_2.length + t114.length < 140737488355328
                          · rw [if_pos c52] at H
                            have LMc52 := Aside0.mk c52
                            clear c52
                            obtain ⟨y121, hy121⟩ : ∃ y_ : List Int, y_ = (x7_2 ++ t114) := ⟨_, rfl⟩
                            replace H : (if (y121.length : Int) > 254 then (some ((⟨#[]⟩ : ByteArray), 0, 3, a1)) else (wire_Read.l0 k2 l0 a1 y121 x8_2 t117 x10_2)) = some (r1, r2, r3, r4) := by first | (rw [hy121]; with_reducible exact H) | (have H2_ := (Option.bind_some _ _).symm.trans H; rw [hy121]; with_reducible exact H2_) | (have H2_ := (Option.bind_some _ _).symm.trans H; with_reducible exact H2_) | with_reducible exact H | (rw [hy121]; exact H) | exact H
                            have Ny121 := Aside0.mk hy121
                            clear hy121
                            by_cases c53 : (y121.length : Int) > 254
                            · rw [if_pos c53] at H
                              have c53b0 : decide (254 < (y121.length : Int)) = true := decide_eq_true c53
                              have c53b1 : decide (254 < y121.length) = true := decide_eq_true (by omega)
                              clear c53
                              simp only [Option.some.injEq, Prod.mk.injEq] at H
                              obtain ⟨rfl, rfl, rfl, rfl⟩ := H
                              have p102 : 0 ≤ (x9_2 : Int) := of_decide_eq_true (by first | (with_reducible assumption) | assumption)
                              have q102 : x9_2 < (l0.length : Int) := of_decide_eq_true (by first | (with_reducible assumption) | assumption)
                              obtain ⟨ad102, e102, hx102_0⟩ := Kd.at_int HR0.out x9_2 p102 q102
                              cases e102
                              replace hx102_0 := (HB.out.cell (World.block_lt_of_cell? w _ hx102_0)).trans hx102_0
                              replace p102 := eq_true p102
                              replace q102 := eq_true q102
                              go_wp2_with (first | ((with_reducible refine gate_callee (f := 39) rfl ?_); refine goesL_ (some 46) rfl rfl Try.func39 (by kernel_rfl) rfl #[.slice (some ad102) l0.length c0, .int .i64 x9_2, .int .i64 (wrap64 ((wrap64 (rd l0 x9_2)) + 1))] rfl (by (try simp only [List.map_toArray, List.map_cons, List.map_nil]); first | done | rfl | (simp only [List.length_drop, List.length_take]; rfl)) ?_; (with_reducible refine (octet_Bytes.calls k2 _ _ l0 x9_2 (wrap64 ((wrap64 (rd l0 x9_2)) + 1)) t114 t117 t118 t119 _ ?side1 ?side2 A50.out).mono ?_); (case side1 => repeat (first | exact (Kd.C_below HR0.out HB.out) | (with_reducible refine Kd.C_alloc ?_ _) | (with_reducible refine Kd.C_drewN ?_ _) | (with_reducible refine Kd.C_drew ?_))); (case side2 => exact HC0.out); rintro e w54 ⟨v115, rfl, ho0, hb⟩; refine ⟨_, rfl, ?_⟩; have n0_ := Aside0.mk (Kd.R_elder' (by (with_reducible repeat (first | apply Kd.R_alloc | apply Kd.R_drewN | apply Kd.R_drew)); exact HO_7.out) (Kd.R_base ho0) hb); have n1_ := Aside0.mk (Kd.R_lower (Kd.R_new' ho0 (Kd.R_lt (by (with_reducible repeat (first | apply Kd.R_alloc | apply Kd.R_drewN | apply Kd.R_drew)); exact HO_7.out))) (below_size (by repeat (first | (with_reducible first | exact HB.out | apply below_alloc | apply pw_below_drewN | apply below_drew1 | refine below_set ?_ GE101.out) | exact HB.out)))); have n2_ := Aside0.mk (blk_below (g := gb101) (o := .cells #[.int .i64 x102000_2, .int .i64 x102001_2] 31 (0, 0)) (by (with_reducible repeat (first | refine blk_drewN ?_ _ | refine blk_drew ?_ | refine blk_alloc ?_ _)); exact BK101.out) hb); have n3_ := Aside0.mk (below_step (by repeat (first | (with_reducible first | exact HB.out | apply below_alloc | apply pw_below_drewN | apply below_drew1 | refine below_set ?_ GE101.out) | exact HB.out)) hb); clear HO_7; clear BK101; clear HB; have HO_7 := n0_; have HO116 := n1_; have BK101 := n2_; have HB := n3_; clear n0_ n1_ n2_ n3_; (try clear hb); (try clear hb2); (try clear hk); (try clear hi); (try clear ho0)) | ((with_reducible refine gate_dst (N := 17) rfl ?_); (try (refine gate_guard (by rfl) ?_; dsimp only)); refine box_event ?hg (N := 17) ?hd (cs := #[.int .i64 0, .int .i64 0]) (t := 31) ?hr ?_; (case hd => rfl); (case hg => rfl); (case hr => first | (go_simp; done) | (go_simp; rfl)); intro gb120 hg w55 hbox hb; have n0_ := Aside0.mk (Kd.R_below (by (with_reducible repeat (first | apply Kd.R_alloc | apply Kd.R_drewN | apply Kd.R_drew)); exact HO_7.out) hb); have n1_ := Aside0.mk (Kd.R_below (by (with_reducible repeat (first | apply Kd.R_alloc | apply Kd.R_drewN | apply Kd.R_drew)); exact HO116.out) hb); have n2_ := Aside0.mk (blk_below (g := gb101) (o := .cells #[.int .i64 x102000_2, .int .i64 x102001_2] 31 (0, 0)) (by (with_reducible repeat (first | refine blk_drewN ?_ _ | refine blk_drew ?_ | refine blk_alloc ?_ _)); exact BK101.out) hb); have n3_ := Aside0.mk (below_step (by repeat (first | (with_reducible first | exact HB.out | apply below_alloc | apply pw_below_drewN | apply below_drew1 | refine below_set ?_ GE101.out) | exact HB.out)) hb); have n4_ := Aside0.mk (hbox); have n5_ := Aside0.mk ((by rw [hg]; exact (below_size (by repeat (first | (with_reducible first | exact HB.out | apply below_alloc | apply pw_below_drewN | apply below_drew1 | refine below_set ?_ GE101.out) | exact HB.out))) : w.heap.size ≤ gb120)); have n6_ := Aside0.mk ((by rw [hg]; exact (below_size (by repeat (first | (with_reducible first | exact HB.out | apply below_alloc | apply pw_below_drewN | apply below_drew1 | refine below_set ?_ GE101.out) | exact HB.out))) : w.heap.size ≤ gb120)); have n7_ := Aside0.mk ((by rw [hg]; exact Nat.ne_of_lt (blk_lt (g := gb101) (o := .cells #[.int .i64 x102000_2, .int .i64 x102001_2] 31 (0, 0)) (by (with_reducible repeat (first | refine blk_drewN ?_ _ | refine blk_drew ?_ | refine blk_alloc ?_ _)); exact BK101.out)) : gb101 ≠ gb120)); have n8_ := Aside0.mk ((by rw [hg]; exact Nat.ne_of_gt (blk_lt (g := gb101) (o := .cells #[.int .i64 x102000_2, .int .i64 x102001_2] 31 (0, 0)) (by (with_reducible repeat (first | refine blk_drewN ?_ _ | refine blk_drew ?_ | refine blk_alloc ?_ _)); exact BK101.out)) : gb120 ≠ gb101)); clear HO_7; clear HO116; clear BK101; clear HB; have HO_7 := n0_; have HO116 := n1_; have BK101 := n2_; have HB := n3_; have BK120 := n4_; have GW120 := n5_; have GE120 := n6_; have NB101_120 := n7_; have NB120_101 := n8_; clear n0_ n1_ n2_ n3_ n4_ n5_ n6_ n7_ n8_; clear hb hbox hg; have hnb56 := NB120_101.out; have hnc56 := NB101_120.out; have hcz57_0 : w55.cell? ⟨gb120, 0, none⟩ = some (.int .i64 0) := (blk_cell BK120.out 0).trans rfl; have hcz57_1 : w55.cell? ⟨gb120, 1, none⟩ = some (.int .i64 0) := (blk_cell BK120.out 1).trans rfl; have hfz57_0 := blk_frozen BK120.out 0; have hfz57_1 := blk_frozen BK120.out 1; obtain ⟨Ao59, co59, eo59⟩ := Kd.R_slice HO116.out; subst eo59) | ((with_reducible refine gate_builtin (b := .append) (xs := #[.tmp 54, .tmp 55]) rfl ?_); (try (refine gate_guard (by rfl) ?_; dsimp only)); at_builtin; refine Kd.R_append_rows (Kd.int .u8) (w0 := w) w.heap.size rfl (.tmp 54) (.tmp 55) 22 5 (.int .u8 0) 1 rfl Try.underlying22 info5 rfl (by decide) (by omega) u7 x7_2 t114 _ _ _ (fun k_ => some k_ ≠ (.slice Ao59 t114.length co59 : Value).ownBlock) (fun _ => False) rfl rfl ?aO ?aR (fun _ _ h => h) (fun _ h => h.elim) ?aF ?aB ?aS ?aL ?_; (case aR => refine (Kd.R_reads' (e := 5) (base := w.heap.size) (ok := fun k_ => (True ∧ some k_ ≠ (u7 : Value).ownBlock)) (n := t114.length) (c := co59) ?_).2.2; exact (by (with_reducible repeat (first | apply Kd.R_alloc | apply Kd.R_drewN | apply Kd.R_drew)); exact (Kd.R_mono (Kd.R_far (p := ⟨gb120, 1, none⟩) (Kd.R_far (p := ⟨gb120, 0, none⟩) (Kd.R_types HO116.out BK120.out (by decide)) (fun _ hk => hk.2) (.int .i64 t118)) (fun _ hk => hk.2) (.int .i64 t119)) (fun _ h_ => h_.1)))); (case aB => exact (by repeat (first | (with_reducible first | exact HB.out | apply below_alloc | apply pw_below_drewN | apply below_drew1 | refine below_set ?_ GE101.out | refine below_set ?_ GE120.out) | exact HB.out))); (case aF => exact (fun k_ hk => Kd.fresh' (Kd.R_lt (by (with_reducible repeat (first | apply Kd.R_alloc | apply Kd.R_drewN | apply Kd.R_drew)); exact (Kd.R_mono (Kd.R_far (p := ⟨gb120, 1, none⟩) (Kd.R_far (p := ⟨gb120, 0, none⟩) (Kd.R_types HO116.out BK120.out (by decide)) (fun _ hk => hk.2) (.int .i64 t118)) (fun _ hk => hk.2) (.int .i64 t119)) (fun _ h_ => h_.1)))) k_ hk)); (case aO => exact (by (with_reducible repeat (first | apply Kd.R_alloc | apply Kd.R_drewN | apply Kd.R_drew)); exact Kd.R_mono (Kd.R_far (p := ⟨gb120, 1, none⟩) (Kd.R_far (p := ⟨gb120, 0, none⟩) (Kd.R_types HO_7.out BK120.out (by decide)) (fun _ hk => hk.2) (.int .i64 t118)) (fun _ hk => hk.2) (.int .i64 t119)) (fun _ hk => hk.1.2))); (case aS => exact (below_size (by repeat (first | (with_reducible first | exact HB.out | apply below_alloc | apply pw_below_drewN | apply below_drew1 | refine below_set ?_ GE101.out | refine below_set ?_ GE120.out) | exact HB.out)))); (case aL => have := LMc52.out; omega); intro v122 w58 ho hb hg hat; rw [← Ny121.out] at ho; have n0_ := Aside0.mk (blk_grown (g := gb101) (o := .cells #[.int .i64 x102000_2, .int .i64 x102001_2] 31 (0, 0)) (by (with_reducible repeat (first | refine blk_drewN ?_ _ | refine blk_drew ?_ | refine blk_alloc ?_ _)); refine blk_far ?_ NB101_120.out _; (with_reducible repeat (first | refine blk_drewN ?_ _ | refine blk_drew ?_ | refine blk_alloc ?_ _)); refine blk_far ?_ NB101_120.out _; (with_reducible repeat (first | refine blk_drewN ?_ _ | refine blk_drew ?_ | refine blk_alloc ?_ _)); exact BK101.out) hg (Kd.R_ne HO_7.out BK101.out (by decide))); have n1_ := Aside0.mk (Kd.R_after (ok := (fun _ => True)) (by (with_reducible repeat (first | apply Kd.R_alloc | apply Kd.R_drewN | apply Kd.R_drew)); exact Kd.R_mono (Kd.R_far (p := ⟨gb120, 1, none⟩) (Kd.R_far (p := ⟨gb120, 0, none⟩) (Kd.R_types HO116.out BK120.out (by decide)) (fun _ hk => hk.2) (.int .i64 t118)) (fun _ hk => hk.2) (.int .i64 t119)) (fun _ hk => ⟨trivial, hk.1.2⟩)) hg hat); have n2_ := Aside0.mk (blk_grown (g := gb120) (o := .cells #[.int .i64 t118, .int .i64 t119] 31 (0, 0)) (by (with_reducible repeat (first | refine blk_drewN ?_ _ | refine blk_drew ?_ | refine blk_alloc ?_ _)); refine blk_put (cs := #[.int .i64 t118, .int .i64 0]) ?_ 1 _ rfl; (with_reducible repeat (first | refine blk_drewN ?_ _ | refine blk_drew ?_ | refine blk_alloc ?_ _)); refine blk_put (cs := #[.int .i64 0, .int .i64 0]) ?_ 0 _ rfl; (with_reducible repeat (first | refine blk_drewN ?_ _ | refine blk_drew ?_ | refine blk_alloc ?_ _)); exact BK120.out) hg (Kd.R_ne HO_7.out BK120.out (by decide))); have n3_ := Aside0.mk (hb); have n4_ := Aside0.mk (ho); clear BK101; clear HO116; clear BK120; clear HB; clear HO_7; have BK101 := n0_; have HO116 := n1_; have BK120 := n2_; have HB := n3_; have HO123 := n4_; clear n0_ n1_ n2_ n3_ n4_; clear ho hb hg hat; obtain ⟨Ao60, co60, eo60⟩ := Kd.R_slice HO123.out; subst eo60; have hcz61_0 : w58.cell? ⟨gb101, 0, none⟩ = some (.int .i64 x102000_2) := (blk_cell BK101.out 0).trans rfl; have hcz61_1 : w58.cell? ⟨gb101, 1, none⟩ = some (.int .i64 x102001_2) := (blk_cell BK101.out 1).trans rfl; have hfz61_0 := blk_frozen BK101.out 0; have hfz61_1 := blk_frozen BK101.out 1))
                              (try rw [Exit.noGoto_ret])
                              refine bodyPost_ret (results_list (rs := [.tmp 4, .tmp 5, .cell 6 31]) rfl (by simp) (.tmp (.tmp (.cell gb101 31 #[.int .i64 3, .int .i64 a1] (0, 0) _ rfl (by (with_reducible repeat (first | refine blk_drewN ?_ _ | refine blk_drew ?_ | refine blk_alloc ?_ _)); refine blk_put (cs := #[.int .i64 3, .int .i64 x102001_2]) ?_ 1 _ rfl; (with_reducible repeat (first | refine blk_drewN ?_ _ | refine blk_drew ?_ | refine blk_alloc ?_ _)); refine blk_put (cs := #[.int .i64 x102000_2, .int .i64 x102001_2]) ?_ 0 _ rfl; (with_reducible repeat (first | refine blk_drewN ?_ _ | refine blk_drew ?_ | refine blk_alloc ?_ _)); exact BK101.out) Try.underlying31 rfl (by kernel_rfl) .nil)))) rfl ?_
                              exact ⟨by first | rfl | (simp [errW_none, errW_some] <;> rfl) | (simp [*, errW_none, errW_some] <;> rfl), by repeat (first | (with_reducible first | exact HB.out | apply below_alloc | apply pw_below_drewN | apply below_drew1 | refine below_set ?_ GE101.out | refine below_set ?_ GE120.out) | exact HB.out)⟩
                            · rw [if_neg c53] at H
                              have c53b0 : decide (254 < (y121.length : Int)) = false := decide_eq_false c53
                              have c53b1 : decide (254 < y121.length) = false := decide_eq_false (by omega)
                              clear c53
                              have H' := Aside0.mk H
                              clear H
                              have p102 : 0 ≤ (x9_2 : Int) := of_decide_eq_true (by first | (with_reducible assumption) | assumption)
                              have q102 : x9_2 < (l0.length : Int) := of_decide_eq_true (by first | (with_reducible assumption) | assumption)
                              obtain ⟨ad102, e102, hx102_0⟩ := Kd.at_int HR0.out x9_2 p102 q102
                              cases e102
                              replace hx102_0 := (HB.out.cell (World.block_lt_of_cell? w _ hx102_0)).trans hx102_0
                              replace p102 := eq_true p102
                              replace q102 := eq_true q102
                              go_wp2_with (first | ((with_reducible refine gate_callee (f := 39) rfl ?_); refine goesL_ (some 46) rfl rfl Try.func39 (by kernel_rfl) rfl #[.slice (some ad102) l0.length c0, .int .i64 x9_2, .int .i64 (wrap64 ((wrap64 (rd l0 x9_2)) + 1))] rfl (by (try simp only [List.map_toArray, List.map_cons, List.map_nil]); first | done | rfl | (simp only [List.length_drop, List.length_take]; rfl)) ?_; (with_reducible refine (octet_Bytes.calls k2 _ _ l0 x9_2 (wrap64 ((wrap64 (rd l0 x9_2)) + 1)) t114 t117 t118 t119 _ ?side1 ?side2 A50.out).mono ?_); (case side1 => repeat (first | exact (Kd.C_below HR0.out HB.out) | (with_reducible refine Kd.C_alloc ?_ _) | (with_reducible refine Kd.C_drewN ?_ _) | (with_reducible refine Kd.C_drew ?_))); (case side2 => exact HC0.out); rintro e w62 ⟨v115, rfl, ho0, hb⟩; refine ⟨_, rfl, ?_⟩; have n0_ := Aside0.mk (Kd.R_elder' (by (with_reducible repeat (first | apply Kd.R_alloc | apply Kd.R_drewN | apply Kd.R_drew)); exact HO_7.out) (Kd.R_base ho0) hb); have n1_ := Aside0.mk (Kd.R_lower (Kd.R_new' ho0 (Kd.R_lt (by (with_reducible repeat (first | apply Kd.R_alloc | apply Kd.R_drewN | apply Kd.R_drew)); exact HO_7.out))) (below_size (by repeat (first | (with_reducible first | exact HB.out | apply below_alloc | apply pw_below_drewN | apply below_drew1 | refine below_set ?_ GE101.out) | exact HB.out)))); have n2_ := Aside0.mk (blk_below (g := gb101) (o := .cells #[.int .i64 x102000_2, .int .i64 x102001_2] 31 (0, 0)) (by (with_reducible repeat (first | refine blk_drewN ?_ _ | refine blk_drew ?_ | refine blk_alloc ?_ _)); exact BK101.out) hb); have n3_ := Aside0.mk (below_step (by repeat (first | (with_reducible first | exact HB.out | apply below_alloc | apply pw_below_drewN | apply below_drew1 | refine below_set ?_ GE101.out) | exact HB.out)) hb); clear HO_7; clear BK101; clear HB; have HO_7 := n0_; have HO116 := n1_; have BK101 := n2_; have HB := n3_; clear n0_ n1_ n2_ n3_; (try clear hb); (try clear hb2); (try clear hk); (try clear hi); (try clear ho0)) | ((with_reducible refine gate_dst (N := 17) rfl ?_); (try (refine gate_guard (by rfl) ?_; dsimp only)); refine box_event ?hg (N := 17) ?hd (cs := #[.int .i64 0, .int .i64 0]) (t := 31) ?hr ?_; (case hd => rfl); (case hg => rfl); (case hr => first | (go_simp; done) | (go_simp; rfl)); intro gb120 hg w63 hbox hb; have n0_ := Aside0.mk (Kd.R_below (by (with_reducible repeat (first | apply Kd.R_alloc | apply Kd.R_drewN | apply Kd.R_drew)); exact HO_7.out) hb); have n1_ := Aside0.mk (Kd.R_below (by (with_reducible repeat (first | apply Kd.R_alloc | apply Kd.R_drewN | apply Kd.R_drew)); exact HO116.out) hb); have n2_ := Aside0.mk (blk_below (g := gb101) (o := .cells #[.int .i64 x102000_2, .int .i64 x102001_2] 31 (0, 0)) (by (with_reducible repeat (first | refine blk_drewN ?_ _ | refine blk_drew ?_ | refine blk_alloc ?_ _)); exact BK101.out) hb); have n3_ := Aside0.mk (below_step (by repeat (first | (with_reducible first | exact HB.out | apply below_alloc | apply pw_below_drewN | apply below_drew1 | refine below_set ?_ GE101.out) | exact HB.out)) hb); have n4_ := Aside0.mk (hbox); have n5_ := Aside0.mk ((by rw [hg]; exact (below_size (by repeat (first | (with_reducible first | exact HB.out | apply below_alloc | apply pw_below_drewN | apply below_drew1 | refine below_set ?_ GE101.out) | exact HB.out))) : w.heap.size ≤ gb120)); have n6_ := Aside0.mk ((by rw [hg]; exact (below_size (by repeat (first | (with_reducible first | exact HB.out | apply below_alloc | apply pw_below_drewN | apply below_drew1 | refine below_set ?_ GE101.out) | exact HB.out))) : w.heap.size ≤ gb120)); have n7_ := Aside0.mk ((by rw [hg]; exact Nat.ne_of_lt (blk_lt (g := gb101) (o := .cells #[.int .i64 x102000_2, .int .i64 x102001_2] 31 (0, 0)) (by (with_reducible repeat (first | refine blk_drewN ?_ _ | refine blk_drew ?_ | refine blk_alloc ?_ _)); exact BK101.out)) : gb101 ≠ gb120)); have n8_ := Aside0.mk ((by rw [hg]; exact Nat.ne_of_gt (blk_lt (g := gb101) (o := .cells #[.int .i64 x102000_2, .int .i64 x102001_2] 31 (0, 0)) (by (with_reducible repeat (first | refine blk_drewN ?_ _ | refine blk_drew ?_ | refine blk_alloc ?_ _)); exact BK101.out)) : gb120 ≠ gb101)); clear HO_7; clear HO116; clear BK101; clear HB; have HO_7 := n0_; have HO116 := n1_; have BK101 := n2_; have HB := n3_; have BK120 := n4_; have GW120 := n5_; have GE120 := n6_; have NB101_120 := n7_; have NB120_101 := n8_; clear n0_ n1_ n2_ n3_ n4_ n5_ n6_ n7_ n8_; clear hb hbox hg; have hnb64 := NB120_101.out; have hnc64 := NB101_120.out; have hcz65_0 : w63.cell? ⟨gb120, 0, none⟩ = some (.int .i64 0) := (blk_cell BK120.out 0).trans rfl; have hcz65_1 : w63.cell? ⟨gb120, 1, none⟩ = some (.int .i64 0) := (blk_cell BK120.out 1).trans rfl; have hfz65_0 := blk_frozen BK120.out 0; have hfz65_1 := blk_frozen BK120.out 1; obtain ⟨Ao67, co67, eo67⟩ := Kd.R_slice HO116.out; subst eo67) | ((with_reducible refine gate_builtin (b := .append) (xs := #[.tmp 54, .tmp 55]) rfl ?_); (try (refine gate_guard (by rfl) ?_; dsimp only)); at_builtin; refine Kd.R_append_rows (Kd.int .u8) (w0 := w) w.heap.size rfl (.tmp 54) (.tmp 55) 22 5 (.int .u8 0) 1 rfl Try.underlying22 info5 rfl (by decide) (by omega) u7 x7_2 t114 _ _ _ (fun k_ => some k_ ≠ (.slice Ao67 t114.length co67 : Value).ownBlock) (fun _ => False) rfl rfl ?aO ?aR (fun _ _ h => h) (fun _ h => h.elim) ?aF ?aB ?aS ?aL ?_; (case aR => refine (Kd.R_reads' (e := 5) (base := w.heap.size) (ok := fun k_ => (True ∧ some k_ ≠ (u7 : Value).ownBlock)) (n := t114.length) (c := co67) ?_).2.2; exact (by (with_reducible repeat (first | apply Kd.R_alloc | apply Kd.R_drewN | apply Kd.R_drew)); exact (Kd.R_mono (Kd.R_far (p := ⟨gb120, 1, none⟩) (Kd.R_far (p := ⟨gb120, 0, none⟩) (Kd.R_types HO116.out BK120.out (by decide)) (fun _ hk => hk.2) (.int .i64 t118)) (fun _ hk => hk.2) (.int .i64 t119)) (fun _ h_ => h_.1)))); (case aB => exact (by repeat (first | (with_reducible first | exact HB.out | apply below_alloc | apply pw_below_drewN | apply below_drew1 | refine below_set ?_ GE101.out | refine below_set ?_ GE120.out) | exact HB.out))); (case aF => exact (fun k_ hk => Kd.fresh' (Kd.R_lt (by (with_reducible repeat (first | apply Kd.R_alloc | apply Kd.R_drewN | apply Kd.R_drew)); exact (Kd.R_mono (Kd.R_far (p := ⟨gb120, 1, none⟩) (Kd.R_far (p := ⟨gb120, 0, none⟩) (Kd.R_types HO116.out BK120.out (by decide)) (fun _ hk => hk.2) (.int .i64 t118)) (fun _ hk => hk.2) (.int .i64 t119)) (fun _ h_ => h_.1)))) k_ hk)); (case aO => exact (by (with_reducible repeat (first | apply Kd.R_alloc | apply Kd.R_drewN | apply Kd.R_drew)); exact Kd.R_mono (Kd.R_far (p := ⟨gb120, 1, none⟩) (Kd.R_far (p := ⟨gb120, 0, none⟩) (Kd.R_types HO_7.out BK120.out (by decide)) (fun _ hk => hk.2) (.int .i64 t118)) (fun _ hk => hk.2) (.int .i64 t119)) (fun _ hk => hk.1.2))); (case aS => exact (below_size (by repeat (first | (with_reducible first | exact HB.out | apply below_alloc | apply pw_below_drewN | apply below_drew1 | refine below_set ?_ GE101.out | refine below_set ?_ GE120.out) | exact HB.out)))); (case aL => have := LMc52.out; omega); intro v122 w66 ho hb hg hat; rw [← Ny121.out] at ho; have n0_ := Aside0.mk (blk_grown (g := gb101) (o := .cells #[.int .i64 x102000_2, .int .i64 x102001_2] 31 (0, 0)) (by (with_reducible repeat (first | refine blk_drewN ?_ _ | refine blk_drew ?_ | refine blk_alloc ?_ _)); refine blk_far ?_ NB101_120.out _; (with_reducible repeat (first | refine blk_drewN ?_ _ | refine blk_drew ?_ | refine blk_alloc ?_ _)); refine blk_far ?_ NB101_120.out _; (with_reducible repeat (first | refine blk_drewN ?_ _ | refine blk_drew ?_ | refine blk_alloc ?_ _)); exact BK101.out) hg (Kd.R_ne HO_7.out BK101.out (by decide))); have n1_ := Aside0.mk (Kd.R_after (ok := (fun _ => True)) (by (with_reducible repeat (first | apply Kd.R_alloc | apply Kd.R_drewN | apply Kd.R_drew)); exact Kd.R_mono (Kd.R_far (p := ⟨gb120, 1, none⟩) (Kd.R_far (p := ⟨gb120, 0, none⟩) (Kd.R_types HO116.out BK120.out (by decide)) (fun _ hk => hk.2) (.int .i64 t118)) (fun _ hk => hk.2) (.int .i64 t119)) (fun _ hk => ⟨trivial, hk.1.2⟩)) hg hat); have n2_ := Aside0.mk (blk_grown (g := gb120) (o := .cells #[.int .i64 t118, .int .i64 t119] 31 (0, 0)) (by (with_reducible repeat (first | refine blk_drewN ?_ _ | refine blk_drew ?_ | refine blk_alloc ?_ _)); refine blk_put (cs := #[.int .i64 t118, .int .i64 0]) ?_ 1 _ rfl; (with_reducible repeat (first | refine blk_drewN ?_ _ | refine blk_drew ?_ | refine blk_alloc ?_ _)); refine blk_put (cs := #[.int .i64 0, .int .i64 0]) ?_ 0 _ rfl; (with_reducible repeat (first | refine blk_drewN ?_ _ | refine blk_drew ?_ | refine blk_alloc ?_ _)); exact BK120.out) hg (Kd.R_ne HO_7.out BK120.out (by decide))); have n3_ := Aside0.mk (hb); have n4_ := Aside0.mk (ho); clear BK101; clear HO116; clear BK120; clear HB; clear HO_7; have BK101 := n0_; have HO116 := n1_; have BK120 := n2_; have HB := n3_; have HO123 := n4_; clear n0_ n1_ n2_ n3_ n4_; clear ho hb hg hat; obtain ⟨Ao68, co68, eo68⟩ := Kd.R_slice HO123.out; subst eo68))
                              go_roundg k2
                              case measure => have := HJ2.out; have := HK2.out; omega
                              case rel => exact ⟨(y121), (x8_2), (t117), (x10_2), (x102000_2), (x102001_2), (by first | rfl | (simp; done) | (simp [*]; done)), (by first | rfl | (simp; done) | (simp [*]; done)), (by first | rfl | (simp; done) | (simp [*]; done)), H', ⟨by have := HJ2.out; have := HK2.out; omega⟩, ⟨by (with_reducible repeat (first | apply Kd.R_alloc | apply Kd.R_drewN | apply Kd.R_drew)); exact Kd.R_mono HO123.out (fun _ hk => trivial)⟩, ⟨by (with_reducible repeat (first | refine blk_drewN ?_ _ | refine blk_drew ?_ | refine blk_alloc ?_ _)); exact BK101.out⟩, ⟨by repeat (first | (with_reducible first | exact HB.out | apply below_alloc | apply pw_below_drewN | apply below_drew1 | refine below_set ?_ GE101.out | refine below_set ?_ GE120.out) | exact HB.out)⟩⟩
                          · rw [if_neg c52] at H
                            exact absurd H (by simp)
                        · rw [if_neg c51] at H
                          have c51b0 : (t118 == 0) = false := beq_eq_false_iff_ne.mpr c51
                          have c51b1 : (t118 != 0) = true := bne_iff_ne.mpr c51
                          simp only [Option.some.injEq, Prod.mk.injEq] at H
                          obtain ⟨rfl, rfl, rfl, rfl⟩ := H
                          have p102 : 0 ≤ (x9_2 : Int) := of_decide_eq_true (by first | (with_reducible assumption) | assumption)
                          have q102 : x9_2 < (l0.length : Int) := of_decide_eq_true (by first | (with_reducible assumption) | assumption)
                          obtain ⟨ad102, e102, hx102_0⟩ := Kd.at_int HR0.out x9_2 p102 q102
                          cases e102
                          replace hx102_0 := (HB.out.cell (World.block_lt_of_cell? w _ hx102_0)).trans hx102_0
                          replace p102 := eq_true p102
                          replace q102 := eq_true q102
                          try go_wp2_with (first | ((with_reducible refine gate_callee (f := 39) rfl ?_); refine goesL_ (some 46) rfl rfl Try.func39 (by kernel_rfl) rfl #[.slice (some ad102) l0.length c0, .int .i64 x9_2, .int .i64 (wrap64 ((wrap64 (rd l0 x9_2)) + 1))] rfl (by (try simp only [List.map_toArray, List.map_cons, List.map_nil]); first | done | rfl | (simp only [List.length_drop, List.length_take]; rfl)) ?_; (with_reducible refine (octet_Bytes.calls k2 _ _ l0 x9_2 (wrap64 ((wrap64 (rd l0 x9_2)) + 1)) t114 t117 t118 t119 _ ?side1 ?side2 A50.out).mono ?_); (case side1 => repeat (first | exact (Kd.C_below HR0.out HB.out) | (with_reducible refine Kd.C_alloc ?_ _) | (with_reducible refine Kd.C_drewN ?_ _) | (with_reducible refine Kd.C_drew ?_))); (case side2 => exact HC0.out); rintro e w69 ⟨v115, rfl, ho0, hb⟩; refine ⟨_, rfl, ?_⟩; have n0_ := Aside0.mk (Kd.R_elder' (by (with_reducible repeat (first | apply Kd.R_alloc | apply Kd.R_drewN | apply Kd.R_drew)); exact HO_7.out) (Kd.R_base ho0) hb); have n1_ := Aside0.mk (Kd.R_lower (Kd.R_new' ho0 (Kd.R_lt (by (with_reducible repeat (first | apply Kd.R_alloc | apply Kd.R_drewN | apply Kd.R_drew)); exact HO_7.out))) (below_size (by repeat (first | (with_reducible first | exact HB.out | apply below_alloc | apply pw_below_drewN | apply below_drew1 | refine below_set ?_ GE101.out) | exact HB.out)))); have n2_ := Aside0.mk (blk_below (g := gb101) (o := .cells #[.int .i64 x102000_2, .int .i64 x102001_2] 31 (0, 0)) (by (with_reducible repeat (first | refine blk_drewN ?_ _ | refine blk_drew ?_ | refine blk_alloc ?_ _)); exact BK101.out) hb); have n3_ := Aside0.mk (below_step (by repeat (first | (with_reducible first | exact HB.out | apply below_alloc | apply pw_below_drewN | apply below_drew1 | refine below_set ?_ GE101.out) | exact HB.out)) hb); clear HO_7; clear BK101; clear HB; have HO_7 := n0_; have HO116 := n1_; have BK101 := n2_; have HB := n3_; clear n0_ n1_ n2_ n3_; (try clear hb); (try clear hb2); (try clear hk); (try clear hi); (try clear ho0)) | ((with_reducible refine gate_dst (N := 17) rfl ?_); (try (refine gate_guard (by rfl) ?_; dsimp only)); refine box_event ?hg (N := 17) ?hd (cs := #[.int .i64 0, .int .i64 0]) (t := 31) ?hr ?_; (case hd => rfl); (case hg => rfl); (case hr => first | (go_simp; done) | (go_simp; rfl)); intro gb120 hg w70 hbox hb; have n0_ := Aside0.mk (Kd.R_below (by (with_reducible repeat (first | apply Kd.R_alloc | apply Kd.R_drewN | apply Kd.R_drew)); exact HO_7.out) hb); have n1_ := Aside0.mk (Kd.R_below (by (with_reducible repeat (first | apply Kd.R_alloc | apply Kd.R_drewN | apply Kd.R_drew)); exact HO116.out) hb); have n2_ := Aside0.mk (blk_below (g := gb101) (o := .cells #[.int .i64 x102000_2, .int .i64 x102001_2] 31 (0, 0)) (by (with_reducible repeat (first | refine blk_drewN ?_ _ | refine blk_drew ?_ | refine blk_alloc ?_ _)); exact BK101.out) hb); have n3_ := Aside0.mk (below_step (by repeat (first | (with_reducible first | exact HB.out | apply below_alloc | apply pw_below_drewN | apply below_drew1 | refine below_set ?_ GE101.out) | exact HB.out)) hb); have n4_ := Aside0.mk (hbox); have n5_ := Aside0.mk ((by rw [hg]; exact (below_size (by repeat (first | (with_reducible first | exact HB.out | apply below_alloc | apply pw_below_drewN | apply below_drew1 | refine below_set ?_ GE101.out) | exact HB.out))) : w.heap.size ≤ gb120)); have n6_ := Aside0.mk ((by rw [hg]; exact (below_size (by repeat (first | (with_reducible first | exact HB.out | apply below_alloc | apply pw_below_drewN | apply below_drew1 | refine below_set ?_ GE101.out) | exact HB.out))) : w.heap.size ≤ gb120)); have n7_ := Aside0.mk ((by rw [hg]; exact Nat.ne_of_lt (blk_lt (g := gb101) (o := .cells #[.int .i64 x102000_2, .int .i64 x102001_2] 31 (0, 0)) (by (with_reducible repeat (first | refine blk_drewN ?_ _ | refine blk_drew ?_ | refine blk_alloc ?_ _)); exact BK101.out)) : gb101 ≠ gb120)); have n8_ := Aside0.mk ((by rw [hg]; exact Nat.ne_of_gt (blk_lt (g := gb101) (o := .cells #[.int .i64 x102000_2, .int .i64 x102001_2] 31 (0, 0)) (by (with_reducible repeat (first | refine blk_drewN ?_ _ | refine blk_drew ?_ | refine blk_alloc ?_ _)); exact BK101.out)) : gb120 ≠ gb101)); clear HO_7; clear HO116; clear BK101; clear HB; have HO_7 := n0_; have HO116 := n1_; have BK101 := n2_; have HB := n3_; have BK120 := n4_; have GW120 := n5_; have GE120 := n6_; have NB101_120 := n7_; have NB120_101 := n8_; clear n0_ n1_ n2_ n3_ n4_ n5_ n6_ n7_ n8_; clear hb hbox hg; have hnb71 := NB120_101.out; have hnc71 := NB101_120.out; have hcz72_0 : w70.cell? ⟨gb120, 0, none⟩ = some (.int .i64 0) := (blk_cell BK120.out 0).trans rfl; have hcz72_1 : w70.cell? ⟨gb120, 1, none⟩ = some (.int .i64 0) := (blk_cell BK120.out 1).trans rfl; have hfz72_0 := blk_frozen BK120.out 0; have hfz72_1 := blk_frozen BK120.out 1))
                          have n0_ : Aside0 (Kd.R (Kd.int .u8) 5 ((w70.setCell ⟨gb120, 0, none⟩ (.int .i64 t118)).setCell ⟨gb120, 1, none⟩ (.int .i64 t119)) w.heap.size (fun k_ => some k_ ≠ (v115 : Value).ownBlock) u7 x7_2) := ⟨by (with_reducible repeat (first | apply Kd.R_alloc | apply Kd.R_drewN | apply Kd.R_drew)); exact Kd.R_mono (Kd.R_far (p := ⟨gb120, 1, none⟩) (Kd.R_far (p := ⟨gb120, 0, none⟩) (Kd.R_types HO_7.out BK120.out (by decide)) (fun _ hk => hk.2) (.int .i64 t118)) (fun _ hk => hk.2) (.int .i64 t119)) (fun _ hk => hk.1.2)⟩
                          have n1_ : Aside0 (Kd.R (Kd.int .u8) 5 ((w70.setCell ⟨gb120, 0, none⟩ (.int .i64 t118)).setCell ⟨gb120, 1, none⟩ (.int .i64 t119)) w.heap.size (fun k_ => some k_ ≠ (u7 : Value).ownBlock) v115 t114) := ⟨by (with_reducible repeat (first | apply Kd.R_alloc | apply Kd.R_drewN | apply Kd.R_drew)); exact Kd.R_mono (Kd.R_far (p := ⟨gb120, 1, none⟩) (Kd.R_far (p := ⟨gb120, 0, none⟩) (Kd.R_types HO116.out BK120.out (by decide)) (fun _ hk => hk.2) (.int .i64 t118)) (fun _ hk => hk.2) (.int .i64 t119)) (fun _ hk => hk.1.2)⟩
                          have n2_ : Aside0 (((w70.setCell ⟨gb120, 0, none⟩ (.int .i64 t118)).setCell ⟨gb120, 1, none⟩ (.int .i64 t119)).heap[gb101]? = some (.cells #[.int .i64 x102000_2, .int .i64 x102001_2] 31 (0, 0))) := ⟨by (with_reducible repeat (first | refine blk_drewN ?_ _ | refine blk_drew ?_ | refine blk_alloc ?_ _)); refine blk_far ?_ NB101_120.out _; (with_reducible repeat (first | refine blk_drewN ?_ _ | refine blk_drew ?_ | refine blk_alloc ?_ _)); refine blk_far ?_ NB101_120.out _; (with_reducible repeat (first | refine blk_drewN ?_ _ | refine blk_drew ?_ | refine blk_alloc ?_ _)); exact BK101.out⟩
                          have n3_ : Aside0 (((w70.setCell ⟨gb120, 0, none⟩ (.int .i64 t118)).setCell ⟨gb120, 1, none⟩ (.int .i64 t119)).heap[gb120]? = some (.cells #[.int .i64 t118, .int .i64 t119] 31 (0, 0))) := ⟨by (with_reducible repeat (first | refine blk_drewN ?_ _ | refine blk_drew ?_ | refine blk_alloc ?_ _)); refine blk_put (cs := #[.int .i64 t118, .int .i64 0]) ?_ 1 _ rfl; (with_reducible repeat (first | refine blk_drewN ?_ _ | refine blk_drew ?_ | refine blk_alloc ?_ _)); refine blk_put (cs := #[.int .i64 0, .int .i64 0]) ?_ 0 _ rfl; (with_reducible repeat (first | refine blk_drewN ?_ _ | refine blk_drew ?_ | refine blk_alloc ?_ _)); exact BK120.out⟩
                          have n4_ : Aside0 (Below w.heap.size w ((w70.setCell ⟨gb120, 0, none⟩ (.int .i64 t118)).setCell ⟨gb120, 1, none⟩ (.int .i64 t119))) := ⟨by repeat (first | (with_reducible first | exact HB.out | apply below_alloc | apply pw_below_drewN | apply below_drew1 | refine below_set ?_ GE101.out | refine below_set ?_ GE120.out) | exact HB.out)⟩
                          (try clear HO_7)
                          (try clear HO116)
                          (try clear BK101)
                          (try clear BK120)
                          (try clear HB)
                          generalize ((w70.setCell ⟨gb120, 0, none⟩ (.int .i64 t118)).setCell ⟨gb120, 1, none⟩ (.int .i64 t119)) = w73 at n0_ n1_ n2_ n3_ n4_ ⊢
                          have HO_7 := n0_
                          have HO116 := n1_
                          have BK101 := n2_
                          have BK120 := n3_
                          have HB := n4_
                          clear n0_ n1_ n2_ n3_ n4_
                          have n0_ := Aside0.mk (Kd.R_drew HO_7.out)
                          have n1_ := Aside0.mk (Kd.R_drew HO116.out)
                          have n2_ := Aside0.mk (blk_drew BK101.out)
                          have n3_ := Aside0.mk (blk_drew BK120.out)
                          have n4_ := Aside0.mk (below_drew1 HB.out)
                          clear HO_7
                          clear HO116
                          clear BK101
                          clear BK120
                          clear HB
                          have HO_7 := n0_
                          have HO116 := n1_
                          have BK101 := n2_
                          have BK120 := n3_
                          have HB := n4_
                          clear n0_ n1_ n2_ n3_ n4_
                          refine start_ (n := 4) (S := fun w' => w'.cell? ⟨gb120, 0, none⟩ = some (.int .i64 t118) ∧ w'.cell? ⟨gb120, 1, none⟩ = some (.int .i64 t119)) (ds := []) #[false, false, false, false] (by kernel_rfl) rfl rfl ⟨(blk_cell BK120.out 0).trans rfl, (blk_cell BK120.out 1).trans rfl⟩ (fun hHeld => ?_)
                          generalize w73.drew = w74 at HO_7 HO116 BK101 BK120 HB hHeld ⊢
                          refine pure_ (i := 1) (N := some 4) (v := ?_) (a' := ?_) #[false, true, false, false] rfl rfl (by kernel_rfl) (fun _ _ _ h => h) (Or.inl ⟨by rfl, ?_⟩) ?_ ?_
                          rotate_left
                          · intro w'
                            go_simp
                            with_reducible rfl
                          rotate_left
                          · simp only [Act.put, List.setIfInBounds_toArray, List.set_cons_zero, List.set_cons_succ, i64_w, i32_w]
                            rfl
                          refine pure_ (i := 2) (N := some 5) (v := ?_) (a' := ?_) #[false, true, true, false] rfl rfl (by kernel_rfl) (fun _ _ _ h => h) (Or.inl ⟨by rfl, ?_⟩) ?_ ?_
                          rotate_left
                          · intro w'
                            go_simp
                            with_reducible rfl
                          rotate_left
                          · simp only [Act.put, List.setIfInBounds_toArray, List.set_cons_zero, List.set_cons_succ, i64_w, i32_w]
                            rfl
                          refine take_ (i := 0) (N := some 53) (v := ?_) (a' := ?_) #[true, true, true, false] rfl rfl (by kernel_rfl) (fun _ _ _ h => h) (Or.inl ⟨by rfl, ?_⟩) hHeld ?_ ?_
                          rotate_left
                          · rintro w' ⟨s0, s1⟩
                            go_simp
                            with_reducible rfl
                          rotate_left
                          · simp only [Act.put, List.setIfInBounds_toArray, List.set_cons_zero, List.set_cons_succ, i64_w, i32_w]
                            rfl
                          refine one_ (i := 3) (N := none) #[true, true, true, true] rfl rfl (by kernel_rfl) (by decide) (fun K hK => ?_)
                          have hs75 : w74.cell? ⟨gb101, 0, none⟩ = some (.int .i64 x102000_2) := (blk_cell BK101.out 0).trans rfl
                          have hfs75 := blk_frozen BK101.out 0
                          have hns75_1 := NB120_101.out
                          have hms75_1 := NB101_120.out
                          have hs76 : w74.cell? ⟨gb101, 1, none⟩ = some (.int .i64 x102001_2) := (blk_cell BK101.out 1).trans rfl
                          have hfs76 := blk_frozen BK101.out 1
                          have hns76_1 := NB120_101.out
                          have hms76_1 := NB101_120.out
                          refine skip_ (w1 := ?_) (by rfl) rfl ?_ ?_
                          rotate_left
                          · go_simp
                            rfl
                          refine hK.out _ _ ⟨((cell_far (p := ⟨gb101, _, none⟩) NB120_101.out _).trans (((cell_far (p := ⟨gb101, _, none⟩) NB120_101.out _).trans (hHeld.1)))), ((cell_far (p := ⟨gb101, _, none⟩) NB120_101.out _).trans (((cell_far (p := ⟨gb101, _, none⟩) NB120_101.out _).trans (hHeld.2))))⟩ (fun hHeld => ?_)
                          clear hK K
                          refine done_ (by kernel_rfl) ?_
                          try go_wp2
                          (try rw [Exit.noGoto_ret])
                          refine bodyPost_ret (results_list (rs := [.tmp 4, .tmp 5, .cell 6 31]) rfl (by simp) (.tmp (.tmp (.cell gb101 31 #[.int .i64 t118, .int .i64 t119] (0, 0) _ rfl (by (with_reducible repeat (first | refine blk_drewN ?_ _ | refine blk_drew ?_ | refine blk_alloc ?_ _)); refine blk_put (cs := #[.int .i64 t118, .int .i64 x102001_2]) ?_ 1 _ rfl; (with_reducible repeat (first | refine blk_drewN ?_ _ | refine blk_drew ?_ | refine blk_alloc ?_ _)); refine blk_put (cs := #[.int .i64 x102000_2, .int .i64 x102001_2]) ?_ 0 _ rfl; (with_reducible repeat (first | refine blk_drewN ?_ _ | refine blk_drew ?_ | refine blk_alloc ?_ _)); exact BK101.out) Try.underlying31 rfl (by kernel_rfl) .nil)))) rfl ?_
                          exact ⟨by first | rfl | (simp [errW_none, errW_some] <;> rfl) | (simp [*, errW_none, errW_some] <;> rfl), by repeat (first | (with_reducible first | exact HB.out | apply below_alloc | apply pw_below_drewN | apply below_drew1 | refine below_set ?_ GE101.out | refine below_set ?_ GE120.out) | exact HB.out)⟩
                · rw [if_neg c11] at H
                  exact absurd H (by simp)
              · rw [if_neg c10] at H
                exact absurd H (by simp)

end Go.Proofs.Ytjjbhpbmfpodeaa.X
end
section
namespace Go.Proofs.Ytjjbhpbmfpodeaa.X
open Go.RowKit Go.Proofs.YtjjbhpbmfpodeaaW.PrintWords Go.Proofs.YtjjbhpbmfpodeaaW.PrintLast Go.Proofs.YtjjbhpbmfpodeaaW.PrintMore
attribute [local go_sem] max2_int min2_int max_two min_two max_three min_three max_four min_four   -- for this text's walks alone
set_option linter.unusedVariables false
set_option linter.unusedSimpArgs false

end Go.Proofs.Ytjjbhpbmfpodeaa.X
end
section
namespace Go.Proofs.Ytjjbhpbmfpodeaa.X
open Go.RowKit Go.Proofs.YtjjbhpbmfpodeaaW.PrintWords Go.Proofs.YtjjbhpbmfpodeaaW.PrintLast Go.Proofs.YtjjbhpbmfpodeaaW.PrintMore
attribute [local go_sem] max2_int min2_int max_two min_two max_three min_three max_four min_four   -- for this text's walks alone
set_option linter.unusedVariables false
set_option linter.unusedSimpArgs false

end Go.Proofs.Ytjjbhpbmfpodeaa.X
end
section
namespace Go.Proofs.Ytjjbhpbmfpodeaa.PB
open Go.RowKit Go.Proofs.Ytjjbhpbmfpodeaa.X Go.Proofs.YtjjbhpbmfpodeaaW.PrintWords Go.Proofs.YtjjbhpbmfpodeaaW.PrintLast
set_option linter.unusedVariables false
set_option linter.unusedSimpArgs false

/-- What the loop of wire.Read tells from (out, i, behind) on. -/
def RdQ (l : List Int) (at_ : Int) (M : Nat) (out : List Int) (i behind : Int) (r : ByteArray × Int × Int × Int) : Prop :=
  (r.2.2.1 ≠ 0 ∧ r.1 = ⟨#[]⟩ ∧ r.2.1 = 0 ∧ 0 ≤ r.2.2.2 ∧ r.2.2.2 ≤ l.length) ∨
  (∃ (ls : List Int) (nx : Int), Lab ls ∧ bytesB ls = true ∧ out.length + ls.length ≤ 254 ∧ r = (strOfNums (out ++ ls ++ [0]), nx, 0, 0) ∧ (0 ≤ behind → nx = behind) ∧
    (behind < 0 → i < nx ∧ nx ≤ l.length ∧ nx ≤ i + ls.length + 2 ∧
      ((nx = i + ls.length + 1 ∧ ∀ (k : Nat) (a0 p2 : Int) (a : Nat), M < k → (a : Int) ≤ i → wire_Read.l0 k (l.drop a) a0 out p2 (i - a) (-1) = some (strOfNums (out ++ ls ++ [0]), nx - a, 0, 0)) ∨
       (∃ j : Nat, j ≤ ls.length ∧ nx = i + j + 2 ∧ ls.length - j ≠ 1))))

theorem rd_drop (l : List Int) (a : Nat) (i : Int) (h : (a : Int) ≤ i) : rd (l.drop a) (i - a) = rd l i := by
  unfold rd
  rw [List.getD_eq_getElem?_getD, List.getD_eq_getElem?_getD, List.getElem?_drop]
  congr 2; omega
theorem take_head (l : List Int) (i : Int) (h0 : 0 ≤ i) (h : i < l.length) (n : Nat) : (l.drop i.toNat).take (n + 1) = rd l i :: ((l.drop i.toNat).drop 1).take n := by
  have hi : i.toNat < l.length := by omega
  rw [List.drop_eq_getElem_cons hi, List.take_succ_cons, List.drop_succ_cons, List.drop_zero]
  unfold rd
  rw [List.getD_eq_getElem?_getD, List.getElem?_eq_getElem hi]; rfl

theorem take_two (l : List Int) (i : Int) (h0 : 0 ≤ i) (h : i + 1 < l.length) : (l.drop i.toNat).take (2 : Int).toNat = [rd l i, rd l (i + 1)] := by
  rw [show (2 : Int).toNat = 1 + 1 from rfl, take_head l i h0 (by omega), List.drop_drop, show i.toNat + 1 = (i + 1).toNat by omega, take_head l (i + 1) (by omega) h]
  rfl

theorem rd_loop {l : List Int} (hb : bytesB l = true) (hl : l.length ≤ 140737488351232) {at_ : Int} (ha0 : 0 ≤ at_) (ha1 : at_ ≤ l.length) : ∀ (M : Nat) (out : List Int) (part i behind : Int),
    bytesB out = true → out.length ≤ 254 → 0 ≤ i → i ≤ l.length → 0 ≤ part → part ≤ l.length → part.toNat + (256 - out.length) ≤ M →
    ∃ r, (∀ k, M < k → wire_Read.l0 k l at_ out part i behind = some r) ∧ RdQ l at_ M out i behind r := by
  intro M
  induction M with
  | zero => intro out part i behind _ _ _ _ _ _ _; omega
  | succ M ih =>
    intro out part i behind hob hol h0 h1 hp0 hp1 hM
    by_cases hend : i = l.length
    · refine ⟨(⟨#[]⟩, 0, 4, (l.length : Int)), fun k hk => ?_, .inl ⟨by simp, rfl, rfl, by show 0 ≤ (l.length : Int); omega, by show (l.length : Int) ≤ l.length; omega⟩⟩
      obtain ⟨k, rfl⟩ : ∃ m, k = m + 1 := ⟨k - 1, by omega⟩
      rw [wire_Read.l0, if_pos (by omega)]
    have hrb := rd_byte hb i
    have hw : wrap64 (rd l i) = rd l i := w64 (by omega) (by omega)
    by_cases hz : rd l i = 0
    · by_cases hbe : behind < 0
      · refine ⟨(strOfNums (out ++ [0]), i + 1, 0, 0), fun k hk => ?_, .inr ⟨[], i + 1, .nil, rfl, by simpa using hol, by simp, by omega, fun _ => ⟨by omega, by omega, by simp only [List.length_nil]; omega, .inl ⟨by simp, ?_⟩⟩⟩⟩
        · obtain ⟨k, rfl⟩ : ∃ m, k = m + 1 := ⟨k - 1, by omega⟩
          rw [wire_Read.l0, if_neg (by omega), if_pos h0, if_pos (by omega), hw, if_pos hz, if_pos hbe, if_pos (by omega), w64 (by omega) (by omega)]
        · intro k a0 p2 a hk ha
          obtain ⟨k, rfl⟩ : ∃ m, k = m + 1 := ⟨k - 1, by omega⟩
          rw [wire_Read.l0, if_neg (by simp; omega), if_pos (by omega), if_pos (by simp; omega), rd_drop l a i ha, hw, if_pos hz, if_pos (by decide), if_pos (by omega), w64 (by omega) (by omega)]
          simp
          omega
      · refine ⟨(strOfNums (out ++ [0]), behind, 0, 0), fun k hk => ?_, .inr ⟨[], behind, .nil, rfl, by simpa using hol, by simp, fun _ => rfl, fun h => absurd h hbe⟩⟩
        obtain ⟨k, rfl⟩ : ∃ m, k = m + 1 := ⟨k - 1, by omega⟩
        rw [wire_Read.l0, if_neg (by omega), if_pos h0, if_pos (by omega), hw, if_pos hz, if_neg hbe, if_pos (by omega)]
    by_cases hptr : rd l i ≥ 192
    · by_cases hsh : (l.length : Int) < i + 2
      · refine ⟨(⟨#[]⟩, 0, 4, (l.length : Int)), fun k hk => ?_, .inl ⟨by simp, rfl, rfl, by show 0 ≤ (l.length : Int); omega, by show (l.length : Int) ≤ l.length; omega⟩⟩
        obtain ⟨k, rfl⟩ : ∃ m, k = m + 1 := ⟨k - 1, by omega⟩
        rw [wire_Read.l0, if_neg (by omega), if_pos h0, if_pos (by omega), hw, if_neg hz, if_pos hptr, get16_of (get_short hb (.inl rfl) (by omega) h0 h1 hsh)]
        rfl
      have hg := get16_of (get_ok (a := i) (s := 2) hb (.inl rfl) (by omega) h0 (by omega))
      obtain ⟨n, hn⟩ : ∃ n, n = beVal ((l.drop i.toNat).take (2 : Int).toNat) := ⟨_, rfl⟩
      rw [← hn] at hg
      have hnr : 0 ≤ n ∧ n < 65536 := by
        rw [hn, take_two l i h0 (by omega)]
        have r1 := rd_byte hb i
        have r2 := rd_byte hb (i + 1)
        simp only [beVal, List.foldl_cons, List.foldl_nil]
        omega
      have hand := and14 hnr.1 (by omega : n < 9223372036854775808)
      by_cases hloop : n % 16384 ≥ part
      · refine ⟨(⟨#[]⟩, 0, 150, i), fun k hk => ?_, .inl ⟨by simp, rfl, rfl, by show 0 ≤ i; omega, by show i ≤ l.length; omega⟩⟩
        obtain ⟨k, rfl⟩ : ∃ m, k = m + 1 := ⟨k - 1, by omega⟩
        rw [wire_Read.l0, if_neg (by omega), if_pos h0, if_pos (by omega), hw, if_neg hz, if_pos hptr, hg]
        simp only [Option.bind_some]
        rw [if_pos trivial, hand, if_pos hloop]
      obtain ⟨r, hr, hq⟩ := ih out (n % 16384) (n % 16384) (if behind < 0 then i + 2 else behind) hob hol (by omega) (by omega) (by omega) (by omega) (by omega)
      refine ⟨r, fun k hk => ?_, ?_⟩
      · obtain ⟨k, rfl⟩ : ∃ m, k = m + 1 := ⟨k - 1, by omega⟩
        rw [wire_Read.l0, if_neg (by omega), if_pos h0, if_pos (by omega), hw, if_neg hz, if_pos hptr, hg]
        simp only [Option.bind_some]
        rw [if_pos trivial, hand, if_neg hloop]
        have := hr k (by omega)
        by_cases hbe : behind < 0
        · rw [if_pos hbe] at this ⊢; exact this
        · rw [if_neg hbe] at this ⊢; exact this
      · rcases hq with hq | ⟨ls, nx, q1, q2, q3, q4, q5, q6⟩
        · exact .inl hq
        · refine .inr ⟨ls, nx, q1, q2, q3, q4, fun hbe => ?_, fun hbe => ?_⟩
          · rw [if_neg (by omega)] at q5; exact q5 hbe
          · rw [if_pos hbe] at q5
            have e := q5 (by omega)
            exact ⟨by omega, by omega, by omega, .inr ⟨0, by omega, by omega, by have := q1.ne_one; omega⟩⟩
    by_cases h63 : rd l i > 63
    · refine ⟨(⟨#[]⟩, 0, 4, i), fun k hk => ?_, .inl ⟨by simp, rfl, rfl, by show 0 ≤ i; omega, by show i ≤ l.length; omega⟩⟩
      obtain ⟨k, rfl⟩ : ∃ m, k = m + 1 := ⟨k - 1, by omega⟩
      rw [wire_Read.l0, if_neg (by omega), if_pos h0, if_pos (by omega), hw, if_neg hz, if_neg hptr, if_pos h63]
    have hw2 : wrap64 (rd l i + 1) = rd l i + 1 := w64 (by omega) (by omega)
    by_cases hsh : (l.length : Int) < i + (rd l i + 1)
    · refine ⟨(⟨#[]⟩, 0, 4, (l.length : Int)), fun k hk => ?_, .inl ⟨by simp, rfl, rfl, by show 0 ≤ (l.length : Int); omega, by show (l.length : Int) ≤ l.length; omega⟩⟩
      obtain ⟨k, rfl⟩ : ∃ m, k = m + 2 := ⟨k - 2, by omega⟩
      rw [wire_Read.l0, if_neg (by omega), if_pos h0, if_pos (by omega), hw, if_neg hz, if_neg hptr, if_neg h63, hw2, bytes_short hl h0 h1 (by omega) hsh]
      rfl
    have hbk : ∀ k, octet_Bytes.f (k + 1) l i (rd l i + 1) = _ := fun k => bytes_ok (k := k) hl h0 (by omega) (by omega)
    obtain ⟨lb, hlb⟩ : ∃ lb, lb = (l.drop i.toNat).take (rd l i + 1).toNat := ⟨_, rfl⟩
    rw [← hlb] at hbk
    have hlbl : (lb.length : Int) = rd l i + 1 := by rw [hlb]; simp; omega
    have hlbb : bytesB lb = true := by rw [hlb]; exact bytesB_take _ (bytesB_drop _ hb)
    have hlbf : ∃ x, lb = rd l i :: x := by
      rw [hlb, show (rd l i + 1).toNat = (rd l i).toNat + 1 by omega, take_head l i h0 (by omega)]; exact ⟨_, rfl⟩
    obtain ⟨x, hx⟩ := hlbf
    have hLab : Lab lb := by
      rw [hx]
      refine .one (by omega) (by omega) ?_
      have := congrArg List.length hx
      simp at this; omega
    by_cases hlong : ((out ++ lb).length : Int) > 254
    · refine ⟨(⟨#[]⟩, 0, 3, at_), fun k hk => ?_, .inl ⟨by simp, rfl, rfl, ha0, ha1⟩⟩
      obtain ⟨k, rfl⟩ : ∃ m, k = m + 2 := ⟨k - 2, by omega⟩
      rw [wire_Read.l0, if_neg (by omega), if_pos h0, if_pos (by omega), hw, if_neg hz, if_neg hptr, if_neg h63, hw2, hbk]
      simp only [Option.bind_some]
      rw [if_pos trivial, if_pos (by omega), if_pos hlong]
    simp only [List.length_append] at hlong
    obtain ⟨r, hr, hq⟩ := ih (out ++ lb) part (i + (rd l i + 1)) behind (bytesB_append.2 ⟨hob, hlbb⟩) (by simp; omega) (by omega) (by omega) hp0 hp1 (by simp; omega)
    refine ⟨r, fun k hk => ?_, ?_⟩
    · obtain ⟨k, rfl⟩ : ∃ m, k = m + 2 := ⟨k - 2, by omega⟩
      rw [wire_Read.l0, if_neg (by omega), if_pos h0, if_pos (by omega), hw, if_neg hz, if_neg hptr, if_neg h63, hw2, hbk]
      simp only [Option.bind_some]
      rw [if_pos trivial, if_pos (by omega), if_neg (by simp only [List.length_append]; omega)]
      exact hr _ (by omega)
    · rcases hq with hq | ⟨ls, nx, q1, q2, q3, q4, q5, q6⟩
      · exact .inl hq
      · simp only [List.length_append] at q3
        refine .inr ⟨lb ++ ls, nx, hLab.append q1, bytesB_append.2 ⟨hlbb, q2⟩, by simp only [List.length_append]; omega, by rw [q4, List.append_assoc, List.append_assoc, List.append_assoc, List.append_assoc], q5, fun hbe => ?_⟩
        obtain ⟨g1, g2, g3, g4⟩ := q6 hbe
        refine ⟨by omega, g2, by simp only [List.length_append]; omega, ?_⟩
        rcases g4 with ⟨g5, g6⟩ | ⟨j, g5, g6, g7⟩
        · refine .inl ⟨by simp only [List.length_append]; omega, fun k a0 p2 a hk ha => ?_⟩
          obtain ⟨k, rfl⟩ : ∃ m, k = m + 2 := ⟨k - 2, by omega⟩
          have hlen : ((l.drop a).length : Int) = l.length - a := by simp; omega
          have hbk2 : octet_Bytes.f (k + 1) (l.drop a) (i - a) (rd l i + 1) = some (lb, i - a + (rd l i + 1), 0, 0) := by
            rw [bytes_ok (by omega) (by omega) (by omega) (by omega), List.drop_drop, hlb]
            congr 4; omega
          rw [wire_Read.l0, if_neg (by omega), if_pos (by omega), if_pos (by omega), rd_drop l a i ha, hw, if_neg hz, if_neg hptr, if_neg h63, hw2, hbk2]
          simp only [Option.bind_some]
          rw [if_pos trivial, if_pos (by omega), if_neg (by simp only [List.length_append]; omega)]
          have := g6 (k + 1) a0 p2 a (by omega) (by omega)
          rw [show i - a + (rd l i + 1) = i + (rd l i + 1) - a by omega, this]
          simp
        · exact .inr ⟨lb.length + j, by simp only [List.length_append]; omega, by simp only [Int.natCast_add]; omega, by simp only [List.length_append]; omega⟩
end Go.Proofs.Ytjjbhpbmfpodeaa.PB
end
section
namespace Go.Proofs.Ytjjbhpbmfpodeaa.PB
open Go.RowKit Go.Proofs.Ytjjbhpbmfpodeaa.X Go.Proofs.YtjjbhpbmfpodeaaW.PrintWords Go.Proofs.YtjjbhpbmfpodeaaW.PrintLast
set_option linter.unusedVariables false

theorem leO_le {α : Type} {f : Nat → Option α} (h : ∀ k, LeO (f k) (f (k + 1))) {k m : Nat} (hk : k ≤ m) : LeO (f k) (f m) := by
  induction hk with
  | refl => exact LeO.refl _
  | step _ ih => exact ih.trans (h _)

theorem read_at {l : List Int} (hb : bytesB l = true) (hl : l.length ≤ 140737488351232) {a : Int} (h0 : 0 ≤ a) (h1 : a ≤ l.length) :
    ∃ r, (∀ k, a.toNat + 257 < k → wire_Read.f k l a = some r) ∧ RdQ l a (a.toNat + 256) [] a (-1) r := by
  obtain ⟨r, hr, hq⟩ := rd_loop hb hl h0 h1 (a.toNat + 256) [] a a (-1) rfl (by simp) h0 h1 h0 h1 (by simp)
  refine ⟨r, fun k hk => ?_, hq⟩
  obtain ⟨k, rfl⟩ : ∃ m, k = m + 1 := ⟨k - 1, by omega⟩
  unfold wire_Read.f
  rw [if_neg (by omega), decide_eq_false (by omega), wire_Read.j0, if_neg (by decide)]
  exact hr k (by omega)

end Go.Proofs.Ytjjbhpbmfpodeaa.PB
namespace Go.Proofs.Ytjjbhpbmfpodeaa.Pure
open Go.RowKit Go.Proofs.Ytjjbhpbmfpodeaa.X Go.Proofs.Ytjjbhpbmfpodeaa.PB Go.Proofs.YtjjbhpbmfpodeaaW.PrintWords Go.Proofs.YtjjbhpbmfpodeaaW.PrintLast

end Go.Proofs.Ytjjbhpbmfpodeaa.Pure
end
section
namespace Go.Proofs.Ytjjbhpbmfpodeaa.X
open Go.RowKit Go.Proofs.Ytjjbhpbmfpodeaa.PB Go.Proofs.YtjjbhpbmfpodeaaW.PrintWords Go.Proofs.YtjjbhpbmfpodeaaW.PrintLast Go.Proofs.YtjjbhpbmfpodeaaW.PrintMore
set_option linter.unusedVariables false
set_option linter.unusedSimpArgs false
attribute [local go_sem] Oper.semAt_some

/-- What wire.Read tells. -/
def wireR (l : List Int) (i : Int) : ByteArray × Int × Int × Int := (wire_Read.f (i.toNat + 258) l i).getD (⟨#[]⟩, 0, 5, 0)
theorem wireR_at {l : List Int} (hb : bytesB l = true) (hl : l.length ≤ 70000) {i : Int} (h0 : 0 ≤ i) (h1 : i ≤ l.length) : wire_Read.f (i.toNat + 258) l i = some (wireR l i) ∧
    (((wireR l i).2.2.1 ≠ 0 ∧ (wireR l i).1 = ⟨#[]⟩ ∧ (wireR l i).2.1 = 0 ∧ 0 ≤ (wireR l i).2.2.2 ∧ (wireR l i).2.2.2 ≤ l.length) ∨
     (∃ ls nx, Lab ls ∧ bytesB ls = true ∧ ls.length ≤ 254 ∧ wireR l i = (strOfNums (ls ++ [0]), nx, 0, 0) ∧ i < nx ∧ nx ≤ l.length)) := by
  obtain ⟨r, hr, hq⟩ := read_at hb (by omega) h0 h1
  have h := hr (i.toNat + 258) (by omega)
  have e : wireR l i = r := by unfold wireR; rw [h]; rfl
  rw [e]
  refine ⟨h, ?_⟩
  rcases hq with hq | ⟨ls, nx, q1, q2, q3, q4, q5, q6⟩
  · exact .inl hq
  · have g := q6 (by decide)
    exact .inr ⟨ls, nx, q1, q2, by simpa using q3, by simpa using q4, g.1, g.2.1⟩

/-- The parts, one by one: the data and where they end, or the fault. -/
def rdGo (l : List Int) (en a : Int) : List S119 → Int → ByteArray → (ByteArray × Int) ⊕ (Int × Int)
  | [], i, out => .inl (out, i)
  | p :: ps, i, out =>
    if p.f1 = true then
      if (wireR l i).2.2.1 ≠ 0 then .inr ((wireR l i).2.2.1, (wireR l i).2.2.2) else if en < (wireR l i).2.1 then .inr (4, a) else rdGo l en a ps (wireR l i).2.1 (out ++ (wireR l i).1)
    else if p.f2 = true then rdGo l en a ps en (out ++ strOfNums ((l.take en.toNat).drop i.toNat))
    else if en - i < p.f0 then .inr (4, a) else rdGo l en a ps (i + p.f0) (out ++ strOfNums ((l.take (i + p.f0).toNat).drop i.toNat))
/-- What Read tells of the parts. -/
def readEnd (t en a : Int) : (ByteArray × Int) ⊕ (Int × Int) → ByteArray × Int × Int
  | .inr (e, f) => (⟨#[]⟩, e, f)
  | .inl (out, i) => if i = en ∧ rdata_Check.f 1 t out = some 0 then (out, 0, 0) else (⟨#[]⟩, 4, a)
theorem readEnd_ok {t en a : Int} {out : ByteArray} (h : rdata_Check.f 1 t out = some 0) : readEnd t en a (.inl (out, en)) = (out, 0, 0) := by
  unfold readEnd; exact if_pos ⟨rfl, h⟩
theorem readEnd_bad {t en a i : Int} {out : ByteArray} (h : ¬ (i = en ∧ rdata_Check.f 1 t out = some 0)) : readEnd t en a (.inl (out, i)) = (⟨#[]⟩, 4, a) := by
  unfold readEnd; exact if_neg h
/-- What Read tells. -/
def readR (l : List Int) (a sz t : Int) : ByteArray × Int × Int :=
  if t < 0 ∨ 65535 < t ∨ sz < 0 ∨ 65535 < sz then (⟨#[]⟩, 2, 0) else if a < 0 ∨ (l.length : Int) < a then (⟨#[]⟩, 5, 0) else if (l.length : Int) - a < sz then (⟨#[]⟩, 4, (l.length : Int)) else
    match partsL t with
    | none => (strOfNums ((l.take (a + sz).toNat).drop a.toNat), 0, 0)
    | some ps => readEnd t (a + sz) a (rdGo l (a + sz) a ps a ⟨#[]⟩)
def rdata_Read.f (l : List Int) (a sz t : Int) : Option (ByteArray × Int × Int) :=
  if bytesB l = true ∧ l.length ≤ 70000 ∧ (Lit.int .i64 a).wf = true then some (readR l a sz t) else none

theorem check_of {t : Int} {s : ByteArray} (h0 : 0 ≤ t) (h1 : t ≤ 65535) (hs : s.size ≤ 100000000000) : ∃ c, rdata_Check.f 1 t s = some c := by
  have hw : (Lit.int .i64 t).wf = true := WalkArith.wf_i64 (by omega)
  unfold rdata_Check.f
  rw [if_neg (by omega), decide_eq_false (by omega), rdata_Check.j0, if_neg (by decide)]
  by_cases h : (s.size : Int) > 65535
  · rw [if_pos h]; exact ⟨_, rfl⟩
  · rw [if_neg h]
    unfold rdata_split.f
    rw [if_pos ⟨hw, hs⟩]
    simp only [Option.bind_some]
    split <;> exact ⟨_, rfl⟩

set_option maxHeartbeats 16000000 in
set_option maxRecDepth 100000 in
theorem rdata_Read.in_ (n : Nat) (hn : 7 ≤ n) (A0 : Option Addr) (c0 : Nat) (l0 : List Int) (a sz t : Int) (w : World) (hr0 : Kd.C (Kd.int .u8) w A0 l0.length l0) (hc0 : l0.length ≤ c0) (hb : bytesB l0 = true) (hl : l0.length ≤ 70000) (ha : -9223372036854775808 ≤ a ∧ a ≤ 9223372036854775807) :
    CallsIn Fence.wide n Try.prog 57 #[.slice A0 l0.length c0, .int .i64 a, .int .i64 sz, .int .i64 t] w fun e w' => e = .returned (.tuple #[.string (readR l0 a sz t).1, .agg #[.int .i64 (readR l0 a sz t).2.1, .int .i64 (readR l0 a sz t).2.2]]) ∧ Below w.heap.size w w' := by
  have HR := Aside0.mk hr0
  have HC := Aside0.mk hc0
  have HBB := Aside0.mk hb
  have HL := Aside0.mk hl
  have HA := Aside0.mk ha
  clear hr0 hc0
  unfold readR
  by_cases h1 : t < 0 ∨ 65535 < t ∨ sz < 0 ∨ 65535 < sz
  · rw [if_pos h1]
    rcases (show (t < 0) ∨ (¬ t < 0 ∧ 65535 < t) ∨ (¬ t < 0 ∧ ¬ 65535 < t ∧ sz < 0) ∨ (¬ t < 0 ∧ ¬ 65535 < t ∧ ¬ sz < 0 ∧ 65535 < sz) by omega) with h | ⟨g1, h⟩ | ⟨g1, g2, h⟩ | ⟨g1, g2, g3, h⟩
    · have d1 : decide (t < 0) = true := decide_eq_true h
      refine callsIn_of_wp Try.func57 rfl trivial ?_ rfl
      simp only [Try.ntmps57, List.size_toArray, List.length_cons, List.length_nil, Nat.reduceAdd, Nat.reduceSub, Array.replicate_succ, Array.replicate_zero, List.push_toArray, List.append_toArray, List.nil_append, List.cons_append]
      gi_wp2
      refine bodyPost_ret (results_list (rs := [.tmp 8, .cell 9 31]) rfl (by simp) (.tmp (.cell w.heap.size 31 #[.int .i64 2, .int .i64 0] (0, 0) _ rfl (blk_new w _) Try.underlying31 rfl (by kernel_rfl) .nil))) rfl ?_
      exact ⟨rfl, below_alloc (Below.refl _ _) _⟩
    · have d1 : decide (t < 0) = false := decide_eq_false g1
      have d2 : decide ((65535 : Int) < t) = true := decide_eq_true h
      refine callsIn_of_wp Try.func57 rfl trivial ?_ rfl
      simp only [Try.ntmps57, List.size_toArray, List.length_cons, List.length_nil, Nat.reduceAdd, Nat.reduceSub, Array.replicate_succ, Array.replicate_zero, List.push_toArray, List.append_toArray, List.nil_append, List.cons_append]
      gi_wp2
      refine bodyPost_ret (results_list (rs := [.tmp 8, .cell 9 31]) rfl (by simp) (.tmp (.cell w.heap.size 31 #[.int .i64 2, .int .i64 0] (0, 0) _ rfl (blk_new w _) Try.underlying31 rfl (by kernel_rfl) .nil))) rfl ?_
      exact ⟨rfl, below_alloc (Below.refl _ _) _⟩
    · have d1 : decide (t < 0) = false := decide_eq_false g1
      have d2 : decide ((65535 : Int) < t) = false := decide_eq_false g2
      have d3 : decide (sz < 0) = true := decide_eq_true h
      refine callsIn_of_wp Try.func57 rfl trivial ?_ rfl
      simp only [Try.ntmps57, List.size_toArray, List.length_cons, List.length_nil, Nat.reduceAdd, Nat.reduceSub, Array.replicate_succ, Array.replicate_zero, List.push_toArray, List.append_toArray, List.nil_append, List.cons_append]
      gi_wp2
      refine bodyPost_ret (results_list (rs := [.tmp 8, .cell 9 31]) rfl (by simp) (.tmp (.cell w.heap.size 31 #[.int .i64 2, .int .i64 0] (0, 0) _ rfl (blk_new w _) Try.underlying31 rfl (by kernel_rfl) .nil))) rfl ?_
      exact ⟨rfl, below_alloc (Below.refl _ _) _⟩
    · have d1 : decide (t < 0) = false := decide_eq_false g1
      have d2 : decide ((65535 : Int) < t) = false := decide_eq_false g2
      have d3 : decide (sz < 0) = false := decide_eq_false g3
      have d4 : decide ((65535 : Int) < sz) = true := decide_eq_true h
      refine callsIn_of_wp Try.func57 rfl trivial ?_ rfl
      simp only [Try.ntmps57, List.size_toArray, List.length_cons, List.length_nil, Nat.reduceAdd, Nat.reduceSub, Array.replicate_succ, Array.replicate_zero, List.push_toArray, List.append_toArray, List.nil_append, List.cons_append]
      gi_wp2
      refine bodyPost_ret (results_list (rs := [.tmp 8, .cell 9 31]) rfl (by simp) (.tmp (.cell w.heap.size 31 #[.int .i64 2, .int .i64 0] (0, 0) _ rfl (blk_new w _) Try.underlying31 rfl (by kernel_rfl) .nil))) rfl ?_
      exact ⟨rfl, below_alloc (Below.refl _ _) _⟩
  rw [if_neg h1]
  have d1 : decide (t < 0) = false := decide_eq_false (by omega)
  have d2 : decide ((65535 : Int) < t) = false := decide_eq_false (by omega)
  have d3 : decide (sz < 0) = false := decide_eq_false (by omega)
  have d4 : decide ((65535 : Int) < sz) = false := decide_eq_false (by omega)
  by_cases h2 : a < 0 ∨ (l0.length : Int) < a
  · rw [if_pos h2]
    by_cases h : a < 0
    · have d5 : decide (a < 0) = true := decide_eq_true h
      refine callsIn_of_wp Try.func57 rfl trivial ?_ rfl
      simp only [Try.ntmps57, List.size_toArray, List.length_cons, List.length_nil, Nat.reduceAdd, Nat.reduceSub, Array.replicate_succ, Array.replicate_zero, List.push_toArray, List.append_toArray, List.nil_append, List.cons_append]
      gi_wp2
      refine bodyPost_ret (results_list (rs := [.tmp 8, .cell 9 31]) rfl (by simp) (.tmp (.cell w.heap.size 31 #[.int .i64 5, .int .i64 0] (0, 0) _ rfl (blk_new w _) Try.underlying31 rfl (by kernel_rfl) .nil))) rfl ?_
      exact ⟨rfl, below_alloc (Below.refl _ _) _⟩
    · have d5 : decide (a < 0) = false := decide_eq_false h
      have d6 : decide ((l0.length : Int) < a) = true := decide_eq_true (by omega)
      refine callsIn_of_wp Try.func57 rfl trivial ?_ rfl
      simp only [Try.ntmps57, List.size_toArray, List.length_cons, List.length_nil, Nat.reduceAdd, Nat.reduceSub, Array.replicate_succ, Array.replicate_zero, List.push_toArray, List.append_toArray, List.nil_append, List.cons_append]
      gi_wp2
      refine bodyPost_ret (results_list (rs := [.tmp 8, .cell 9 31]) rfl (by simp) (.tmp (.cell w.heap.size 31 #[.int .i64 5, .int .i64 0] (0, 0) _ rfl (blk_new w _) Try.underlying31 rfl (by kernel_rfl) .nil))) rfl ?_
      exact ⟨rfl, below_alloc (Below.refl _ _) _⟩
  rw [if_neg h2]
  have d5 : decide (a < 0) = false := decide_eq_false (by omega)
  have d6 : decide ((l0.length : Int) < a) = false := decide_eq_false (by omega)
  have hw1 : IntKind.i64.wrap ((l0.length : Int) - a) = (l0.length : Int) - a := IntWalk.i64_in _ (by omega)
  by_cases h3 : (l0.length : Int) - a < sz
  · rw [if_pos h3]
    have d7 : decide ((l0.length : Int) - a < sz) = true := decide_eq_true h3
    refine callsIn_of_wp Try.func57 rfl trivial ?_ rfl
    simp only [Try.ntmps57, List.size_toArray, List.length_cons, List.length_nil, Nat.reduceAdd, Nat.reduceSub, Array.replicate_succ, Array.replicate_zero, List.push_toArray, List.append_toArray, List.nil_append, List.cons_append]
    gi_wp2
    refine bodyPost_ret (results_list (rs := [.tmp 8, .cell 9 31]) rfl (by simp) (.tmp (.cell w.heap.size 31 #[.int .i64 4, .int .i64 (l0.length : Int)] (0, 0) _ rfl (blk_new w _) Try.underlying31 rfl (by kernel_rfl) .nil))) rfl ?_
    exact ⟨rfl, below_alloc (Below.refl _ _) _⟩
  rw [if_neg h3]
  have d7 : decide ((l0.length : Int) - a < sz) = false := decide_eq_false (by omega)
  have hw2 : IntKind.i64.wrap (a + sz) = a + sz := IntWalk.i64_in _ (by omega)
  have HT : Aside0 (0 ≤ t ∧ t ≤ 65535) := ⟨by omega⟩
  have HWF : Aside0 ((Lit.int .i64 t).wf = true) := ⟨WalkArith.wf_i64 (by omega)⟩
  have HEN : Aside0 (0 ≤ a ∧ 0 ≤ sz ∧ a + sz ≤ (l0.length : Int) ∧ sz ≤ 65535) := ⟨by omega⟩
  obtain ⟨i5, hi5, _, hsz5, _⟩ := info_parts info5
  cases hp : partsL t with
  | none =>
    have HP := Aside0.mk hp
    obtain ⟨en, hen⟩ : ∃ en, en = a + sz := ⟨_, rfl⟩
    rw [← hen] at ⊢
    replace hw2 := hw2.trans hen.symm
    obtain ⟨A7, hsl7, hC7, hc7⟩ := print_mid_of (P := Try.prog) (Value.int .u8) (0 : Int) 22 5 .i64 .i64 Try.underlying22 hi5 hsz5 A0 c0 l0 a en (by omega) (by omega) (by omega) HC.out
    obtain ⟨ys7, hy7⟩ : ∃ ys, ys = (l0.take (en).toNat).drop (a).toNat := ⟨_, rfl⟩
    rw [← hy7] at hsl7 hC7 hc7
    have HY7 := Aside0.mk hy7
    rw [← hy7]
    have HCC7 := Aside0.mk hC7
    clear hC7 hy7 hc7 hp h1 h2 h3 hb hl ha hen
    refine callsIn_of_wp Try.func57 rfl trivial ?_ rfl
    simp only [Try.ntmps57, List.size_toArray, List.length_cons, List.length_nil, Nat.reduceAdd, Nat.reduceSub, Array.replicate_succ, Array.replicate_zero, List.push_toArray, List.append_toArray, List.nil_append, List.cons_append]
    gi_wp2_with (first
      | (first | refine ⟨trivial, fun _ => by omega, ?_⟩ | refine ⟨trivial, ?_⟩); refine (rdata_parts.in_ (n - 1) (by omega) t HWF.out _).mono ?_; rw [HP.out]; rintro e w1 ⟨v, rfl, hr, hb1⟩; obtain ⟨Al, cl, rfl, hcl, hCl⟩ := Kd.R_reads hr; have HB1 := Aside0.mk ((below_alloc (Below.refl _ _) _ : Below w.heap.size w (w.alloc (Obj.cells #[.int .i64 0, .int .i64 0] 31))).trans (hb1.mono (by simp))); have h9 := blk_below (blk_new w (Obj.cells #[.int .i64 0, .int .i64 0] 31)) hb1; have H9 := Aside0.mk h9; have c90 : w1.cell? ⟨w.heap.size, 0, none⟩ = some (.int .i64 0) := (blk_cell h9 0).trans rfl; have z90 := blk_frozen h9 0; have z91 := blk_frozen h9 1; have c91 : w1.cell? ⟨w.heap.size, 1, none⟩ = some (.int .i64 0) := (blk_cell h9 1).trans rfl; have hst : ∀ c, (convert 22 9 (.slice A7 ys7.length c)).run Try.prog w1 = .ok (.string (strOfNums ys7)) w1 := fun c => string_of_reads (P := Try.prog) Try.underlying22 Try.underlying5 Try.underlying9 (HCC7.out w1 (Kd.reads_of_C (Kd.C_below HR.out HB1.out))); clear hr hb1 hcl hCl h9)
    refine bodyPost_ret (results_list (rs := [.tmp 8, .cell 9 31]) rfl (by simp) (.tmp (.cell w.heap.size 31 #[.int .i64 0, .int .i64 0] (0, 0) _ rfl (blk_put (cs := #[.int .i64 0, .int .i64 0]) (blk_put (cs := #[.int .i64 0, .int .i64 0]) H9.out 0 _ rfl) 1 _ rfl) Try.underlying31 rfl (by kernel_rfl) .nil))) rfl ?_
    exact ⟨rfl, (HB1.out.setCell (Nat.le_refl _) _).setCell (Nat.le_refl _) _⟩
  | some ps =>
    have hok := partsL_ok hp
    have HP := Aside0.mk hp
    have HPL := Aside0.mk hok
    obtain ⟨en, hen⟩ : ∃ en, en = a + sz := ⟨_, rfl⟩
    have HEE := Aside0.mk hen
    rw [← hen] at ⊢
    replace hw2 := hw2.trans hen.symm
    obtain ⟨RES, hRES⟩ : ∃ RES, RES = rdGo l0 en a ps a ⟨#[]⟩ := ⟨_, rfl⟩
    show CallsIn _ _ _ _ _ _ fun e w' => e = .returned (.tuple #[.string (readEnd t en a (rdGo l0 en a ps a ⟨#[]⟩)).1, .agg #[.int .i64 (readEnd t en a (rdGo l0 en a ps a ⟨#[]⟩)).2.1, .int .i64 (readEnd t en a (rdGo l0 en a ps a ⟨#[]⟩)).2.2]]) ∧ _
    rw [← hRES]
    have HRES := Aside0.mk hRES
    clear hok hp hen hRES h1 h2 h3 hb hl ha
    refine callsIn_of_wp Try.func57 rfl trivial ?_ rfl
    simp only [Try.ntmps57, List.size_toArray, List.length_cons, List.length_nil, Nat.reduceAdd, Nat.reduceSub, Array.replicate_succ, Array.replicate_zero, List.push_toArray, List.append_toArray, List.nil_append, List.cons_append]
    gi_wp2_with (first
      | (first | refine ⟨trivial, fun _ => by omega, ?_⟩ | refine ⟨trivial, ?_⟩); refine (rdata_parts.in_ (n - 1) (by omega) t HWF.out _).mono ?_; rw [HP.out]; rintro e w1 ⟨v, rfl, hr, hb1⟩; obtain ⟨Al, cl, rfl, hcl, hCl⟩ := Kd.R_reads hr; simp only [Option.getD_some] at hCl; have HCP := Aside0.mk hCl; have H9 := Aside0.mk (blk_below (blk_new w (Obj.cells #[.int .i64 0, .int .i64 0] 31)) hb1); have HB1 := Aside0.mk ((below_alloc (Below.refl _ _) _ : Below w.heap.size w (w.alloc (Obj.cells #[.int .i64 0, .int .i64 0] 31))).trans (hb1.mono (by simp))); clear hr hb1 hcl hCl)
    gi_loopw [14, 15, 78] (fun o i j wr => ∃ (out : ByteArray) (I J : Int), o = .string out ∧ i = .int .i64 I ∧ j = .int .i64 J ∧ 0 ≤ J ∧ J ≤ (ps.length : Int) ∧ a ≤ I ∧ I ≤ en ∧ Aside0 (rdGo l0 en a (ps.drop J.toNat) I out = RES ∧ out.size ≤ 70000 * J.toNat) ∧ Aside0 (Below (w1.alloc (Obj.cells #[.int .i64 4, .int .i64 a] 31)).heap.size (w1.alloc (Obj.cells #[.int .i64 4, .int .i64 a] 31)) wr))
      (fun _ _ j _ => match j with | .int _ J => ((ps.length : Int) - J).toNat | _ => 0)
    case atStart => exact ⟨⟨#[]⟩, a, 0, rfl, rfl, rfl, by omega, by omega, by omega, by have := HEE.out; have := HEN.out; omega, ⟨HRES.out.symm, Nat.zero_le _⟩, ⟨Below.refl _ _⟩⟩
    case round =>
      obtain ⟨out, I, J, rfl, rfl, rfl, h0, h1, h2, h3, HK, HBw⟩ := hrel
      have HJ := Aside0.mk (And.intro h0 (And.intro h1 (And.intro h2 h3)))
      have hen := HEN.out
      have hee := HEE.out
      have hbA : Below w1.heap.size w1 (w1.alloc (Obj.cells #[.int .i64 4, .int .i64 a] 31)) := below_alloc (Below.refl _ _) _
      have hbw1 : Below w1.heap.size w1 wr := hbA.trans (HBw.out.mono hbA.size)
      have HBF := Aside0.mk (HB1.out.trans (hbw1.mono HB1.out.size))
      have HRw := Aside0.mk (Kd.C_below HR.out HBF.out)
      have H9w := Aside0.mk (blk_below H9.out hbw1)
      have H13w := Aside0.mk (blk_below (blk_new w1 (Obj.cells #[.int .i64 4, .int .i64 a] 31)) HBw.out)
      have hC := Kd.C_below HCP.out hbw1
      by_cases hlt : J < (ps.length : Int)
      · have d8 : decide (J < (ps.length : Int)) = true := decide_eq_true hlt
        obtain ⟨ad, rfl, hx0, hx1, hx2⟩ := at_T119 hC J h0 hlt
        have hpd : ps.drop J.toNat = rd_T119 ps J :: ps.drop (J.toNat + 1) := by
          have hj : J.toNat < ps.length := by omega
          rw [List.drop_eq_getElem_cons hj]
          congr 1
          unfold rd_T119
          rw [List.getD_eq_getElem?_getD, List.getElem?_eq_getElem hj]; rfl
        have hpm : rd_T119 ps J ∈ ps := by
          have : rd_T119 ps J ∈ ps.drop J.toNat := by rw [hpd]; exact List.mem_cons_self
          exact List.mem_of_mem_drop this
        have hpo := HPL.out.2 _ hpm
        obtain ⟨⟨f0, f1, f2⟩, hpe⟩ : ∃ p, p = rd_T119 ps J := ⟨_, rfl⟩
        rw [← hpe] at hx0 hx1 hx2 hpd hpo
        have hk := HK.out.1
        rw [hpd] at hk
        have hwj : IntKind.i64.wrap (J + 1) = J + 1 := IntWalk.i64_in _ (by have := HPL.out.1; omega)
        have hp0 := eq_true h0
        have hq0 := eq_true hlt
        have HLT := Aside0.mk hlt
        have hjn : (J + 1).toNat = J.toNat + 1 := by omega
        have HJN := Aside0.mk hjn
        have HOS : Aside0 (out.size ≤ 210000) := ⟨by have := HK.out.2; have := HPL.out.1; omega⟩
        clear hpd hpm hpe hC hbA hbw1 hjn
        simp only at hx0 hx1 hx2 hpo
        have HPO := Aside0.mk hpo
        cases f1 with
        | true =>
          have hI0 : 0 ≤ I := by omega
          have hI1 : I ≤ (l0.length : Int) := by omega
          obtain ⟨hf, hcase⟩ := wireR_at HBB.out HL.out hI0 hI1
          obtain ⟨⟨n1, nx, e, fa⟩, hW⟩ : ∃ x, x = wireR l0 I := ⟨_, rfl⟩
          rw [rdGo, ← hW] at hk
          rw [← hW] at hf hcase
          rw [if_pos rfl] at hk
          simp only at hk
          have HF := Aside0.mk hf
          clear hf hW hpo
          by_cases he : e = 0
          · subst he
            rw [if_neg (by simp)] at hk
            rcases hcase with ⟨hc, _⟩ | ⟨ls, nx', q1, q2, q3, q4, q5, q6⟩
            · exact absurd rfl hc
            obtain ⟨rfl, rfl, rfl⟩ : n1 = strOfNums (ls ++ [0]) ∧ nx = nx' ∧ fa = 0 := by simpa using q4
            have HNS : Aside0 ((strOfNums (ls ++ [0])).size ≤ 255) := ⟨by rw [strOfNums_size]; simp; omega⟩
            obtain ⟨n1, hn1⟩ : ∃ n1, n1 = strOfNums (ls ++ [0]) := ⟨_, rfl⟩
            rw [← hn1] at hk HF HNS
            have HNX := Aside0.mk q5
            clear q1 q2 q3 q4 q6 hn1
            by_cases hlate : en < nx
            · have d9 : decide (en < nx) = true := decide_eq_true hlate
              rw [if_pos hlate] at hk
              have HRE := Aside0.mk hk.symm
              clear hk hlate h0 h1 h2 h3 hlt hen hee hI0 hI1 q5
              gi_wp2_with (first
                | (first | refine ⟨trivial, fun _ => by omega, ?_⟩ | refine ⟨trivial, ?_⟩); refine (callsIn_wide.2 (wire_Read.calls (I.toNat + 258) A0 c0 l0 I n1 nx 0 0 _ (Kd.C_below HRw.out (below_alloc (Below.refl _ _) _)) HC.out HF.out)).mono ?_; rintro e5 w5 ⟨rfl, hb5⟩; have H5 : Aside0 (Below wr.heap.size wr w5) := ⟨(below_alloc (Below.refl _ _) _).trans (hb5.mono (by simp))⟩; have q200 : (w5.alloc (Obj.cells #[.int .i64 0, .int .i64 0] 31)).cell? ⟨w5.heap.size, 0, none⟩ = some (.int .i64 0) := (blk_cell (blk_new w5 _) 0).trans rfl; have q201 : (w5.alloc (Obj.cells #[.int .i64 0, .int .i64 0] 31)).cell? ⟨w5.heap.size, 1, none⟩ = some (.int .i64 0) := (blk_cell (blk_new w5 _) 1).trans rfl; clear hb5; have h13 := blk_alloc (blk_below H13w.out H5.out) (Obj.cells #[.int .i64 0, .int .i64 0] 31); have q130 : (w5.alloc (Obj.cells #[.int .i64 0, .int .i64 0] 31)).cell? ⟨w1.heap.size, 0, none⟩ = some (.int .i64 4) := (blk_cell h13 0).trans rfl; have q131 : (w5.alloc (Obj.cells #[.int .i64 0, .int .i64 0] 31)).cell? ⟨w1.heap.size, 1, none⟩ = some (.int .i64 a) := (blk_cell h13 1).trans rfl; clear h13; have h9 := blk_alloc (blk_below H9w.out H5.out) (Obj.cells #[.int .i64 0, .int .i64 0] 31); have c90 : (w5.alloc (Obj.cells #[.int .i64 0, .int .i64 0] 31)).cell? ⟨w.heap.size, 0, none⟩ = some (.int .i64 0) := (blk_cell h9 0).trans rfl; have c91 : (w5.alloc (Obj.cells #[.int .i64 0, .int .i64 0] 31)).cell? ⟨w.heap.size, 1, none⟩ = some (.int .i64 0) := (blk_cell h9 1).trans rfl; have z90 := blk_frozen h9 0; have z91 := blk_frozen h9 1; have H9z := Aside0.mk h9; clear h9)
              gi_region
              all_goals
                gi_wp2
                refine bodyPost_ret (results_list (rs := [.tmp 8, .cell 9 31]) rfl (by simp) (.tmp (.cell w.heap.size 31 #[.int .i64 4, .int .i64 a] (0, 0) _ rfl (blk_put (cs := #[.int .i64 4, .int .i64 0]) (blk_put (cs := #[.int .i64 0, .int .i64 0]) H9z.out 0 _ rfl) 1 _ rfl) Try.underlying31 rfl (by kernel_rfl) .nil))) rfl ?_
                refine ⟨by rw [HRE.out]; rfl, ?_⟩
                exact ((below_drew (below_alloc (HBF.out.trans (H5.out.mono HBF.out.size)) _)).setCell (Nat.le_refl _) _).setCell (Nat.le_refl _) _
            · have d9 : decide (en < nx) = false := decide_eq_false hlate
              rw [if_neg hlate] at hk
              have HRE := Aside0.mk hk
              have HLA : Aside0 (nx ≤ en) := ⟨by omega⟩
              have hsum : (out ++ n1).size = out.size + n1.size := ByteArray.size_append
              have HSUM := Aside0.mk hsum
              have hf1 : (9223372036854775807 < out.size + n1.size) = False := eq_false (by have := HOS.out; have := HNS.out; omega)
              have hf2 : decide ((9223372036854775807 : Int) < (out.size : Int) + (n1.size : Int)) = false := decide_eq_false (by have := HOS.out; have := HNS.out; omega)
              have hf3 : ((9223372036854775807 : Int) < (out.size : Int) + (n1.size : Int)) = False := eq_false (by have := HOS.out; have := HNS.out; omega)
              clear hk hlate h0 h1 h2 h3 hlt hen hee hI0 hI1 q5 hsum
              gi_wp2_with (first
                | (first | refine ⟨trivial, fun _ => by omega, ?_⟩ | refine ⟨trivial, ?_⟩); refine (callsIn_wide.2 (wire_Read.calls (I.toNat + 258) A0 c0 l0 I n1 nx 0 0 _ (Kd.C_below HRw.out (below_alloc (Below.refl _ _) _)) HC.out HF.out)).mono ?_; rintro e5 w5 ⟨rfl, hb5⟩; have H5 : Aside0 (Below wr.heap.size wr w5) := ⟨(below_alloc (Below.refl _ _) _).trans (hb5.mono (by simp))⟩; have q200 : (w5.alloc (Obj.cells #[.int .i64 0, .int .i64 0] 31)).cell? ⟨w5.heap.size, 0, none⟩ = some (.int .i64 0) := (blk_cell (blk_new w5 _) 0).trans rfl; have q201 : (w5.alloc (Obj.cells #[.int .i64 0, .int .i64 0] 31)).cell? ⟨w5.heap.size, 1, none⟩ = some (.int .i64 0) := (blk_cell (blk_new w5 _) 1).trans rfl; clear hb5)
              exact ⟨⟨out ++ n1, nx, J + 1, rfl, rfl, rfl, by have := HJ.out; omega, by have := HLT.out; omega, by have := HJ.out; have := HNX.out; omega, by have := HLA.out; omega, ⟨by rw [HJN.out]; exact HRE.out, by rw [HSUM.out, HJN.out]; have := HK.out.2; have := HNS.out; omega⟩, ⟨HBw.out.trans ((below_alloc H5.out _).mono HBw.out.size)⟩⟩, by show ((ps.length : Int) - (J + 1)).toNat < ((ps.length : Int) - J).toNat; have := HLT.out; omega⟩
          · have he2 : (e != 0) = true := bne_iff_ne.2 he
            rw [if_pos he] at hk
            have HRE := Aside0.mk hk.symm
            clear hk h0 h1 h2 h3 hlt hen hee hI0 hI1 hcase he
            gi_wp2_with (first
              | (first | refine ⟨trivial, fun _ => by omega, ?_⟩ | refine ⟨trivial, ?_⟩); refine (callsIn_wide.2 (wire_Read.calls (I.toNat + 258) A0 c0 l0 I n1 nx e fa _ (Kd.C_below HRw.out (below_alloc (Below.refl _ _) _)) HC.out HF.out)).mono ?_; rintro e5 w5 ⟨rfl, hb5⟩; have H5 : Aside0 (Below wr.heap.size wr w5) := ⟨(below_alloc (Below.refl _ _) _).trans (hb5.mono (by simp))⟩; have q200 : (w5.alloc (Obj.cells #[.int .i64 e, .int .i64 fa] 31)).cell? ⟨w5.heap.size, 0, none⟩ = some (.int .i64 e) := (blk_cell (blk_new w5 _) 0).trans rfl; have q201 : (w5.alloc (Obj.cells #[.int .i64 e, .int .i64 fa] 31)).cell? ⟨w5.heap.size, 1, none⟩ = some (.int .i64 fa) := (blk_cell (blk_new w5 _) 1).trans rfl; clear hb5; have h9 := blk_alloc (blk_below H9w.out H5.out) (Obj.cells #[.int .i64 e, .int .i64 fa] 31); have c90 : (w5.alloc (Obj.cells #[.int .i64 e, .int .i64 fa] 31)).cell? ⟨w.heap.size, 0, none⟩ = some (.int .i64 0) := (blk_cell h9 0).trans rfl; have c91 : (w5.alloc (Obj.cells #[.int .i64 e, .int .i64 fa] 31)).cell? ⟨w.heap.size, 1, none⟩ = some (.int .i64 0) := (blk_cell h9 1).trans rfl; have z90 := blk_frozen h9 0; have z91 := blk_frozen h9 1; have H9z := Aside0.mk h9; clear h9)
            gi_region
            all_goals
              gi_wp2
              refine bodyPost_ret (results_list (rs := [.tmp 8, .cell 9 31]) rfl (by simp) (.tmp (.cell w.heap.size 31 #[.int .i64 e, .int .i64 fa] (0, 0) _ rfl (blk_put (cs := #[.int .i64 e, .int .i64 0]) (blk_put (cs := #[.int .i64 0, .int .i64 0]) H9z.out 0 _ rfl) 1 _ rfl) Try.underlying31 rfl (by kernel_rfl) .nil))) rfl ?_
              refine ⟨by rw [HRE.out]; rfl, ?_⟩
              exact ((below_drew (below_alloc (HBF.out.trans (H5.out.mono HBF.out.size)) _)).setCell (Nat.le_refl _) _).setCell (Nat.le_refl _) _
        | false =>
          cases f2 with
          | true =>
            rw [rdGo, if_neg (by simp), if_pos rfl] at hk
            obtain ⟨A8, hsl8, hC8, hc8⟩ := print_mid_of (P := Try.prog) (Value.int .u8) (0 : Int) 22 5 .i64 .i64 Try.underlying22 hi5 hsz5 A0 c0 l0 I en (by omega) (by omega) (by omega) HC.out
            obtain ⟨ys8, hy8⟩ : ∃ ys, ys = (l0.take (en).toNat).drop (I).toNat := ⟨_, rfl⟩
            rw [← hy8] at hsl8 hC8 hc8
            have HY8 := Aside0.mk hy8
            obtain ⟨n1, hn1⟩ : ∃ n1, n1 = strOfNums ys8 := ⟨_, rfl⟩
            have hst : ∀ c, (convert 22 9 (.slice A8 ys8.length c)).run Try.prog (wr.alloc (Obj.cells #[.int .i64 f0, .bool false, .bool true] 119)) = .ok (.string n1) (wr.alloc (Obj.cells #[.int .i64 f0, .bool false, .bool true] 119)) := fun c => by
              rw [hn1]
              exact string_of_reads (P := Try.prog) Try.underlying22 Try.underlying5 Try.underlying9 (hC8 _ (Kd.reads_of_C (Kd.C_below HRw.out (below_alloc (Below.refl _ _) _))))
            have HNS : Aside0 (n1.size ≤ 70000) := ⟨by rw [hn1, strOfNums_size, hy8, List.length_drop, List.length_take]; have := HL.out; omega⟩
            have hsum : (out ++ n1).size = out.size + n1.size := ByteArray.size_append
            have HSUM := Aside0.mk hsum
            rw [← hy8, ← hn1] at hk
            have HRE := Aside0.mk hk
            have HLA : Aside0 (en ≤ en) := ⟨by omega⟩
            have HNX : Aside0 (a ≤ en) := ⟨by omega⟩
            clear hk h0 h1 h2 h3 hlt hen hee hpo hsum hC8 hc8 hy8 hn1
            have hf1 : (9223372036854775807 < out.size + n1.size) = False := eq_false (by have := HOS.out; have := HNS.out; omega)
            have hf2 : decide ((9223372036854775807 : Int) < (out.size : Int) + (n1.size : Int)) = false := decide_eq_false (by have := HOS.out; have := HNS.out; omega)
            have hf3 : ((9223372036854775807 : Int) < (out.size : Int) + (n1.size : Int)) = False := eq_false (by have := HOS.out; have := HNS.out; omega)
            gi_wp2
            exact ⟨⟨out ++ n1, en, J + 1, rfl, rfl, rfl, by have := HJ.out; omega, by have := HLT.out; omega, by have := HJ.out; have := HNX.out; omega, by have := HLA.out; omega, ⟨by rw [HJN.out]; exact HRE.out, by rw [HSUM.out, HJN.out]; have := HK.out.2; have := HNS.out; omega⟩, ⟨HBw.out.trans ((below_alloc (Below.refl _ _) _).mono HBw.out.size)⟩⟩, by show ((ps.length : Int) - (J + 1)).toNat < ((ps.length : Int) - J).toNat; have := HLT.out; omega⟩
          | false =>
            have hwe : IntKind.i64.wrap (en - I) = en - I := IntWalk.i64_in _ (by have := HL.out; omega)
            by_cases hsz : en - I < f0
            · have d9 : decide (en - I < f0) = true := decide_eq_true hsz
              rw [rdGo, if_neg (by simp), if_neg (by simp), if_pos hsz] at hk
              have HRE := Aside0.mk hk.symm
              clear hk h0 h1 h2 h3 hlt hen hee hpo hsz
              have h9 := blk_alloc H9w.out (Obj.cells #[.int .i64 f0, .bool false, .bool false] 119)
              have c90 : (wr.alloc (Obj.cells #[.int .i64 f0, .bool false, .bool false] 119)).cell? ⟨w.heap.size, 0, none⟩ = some (.int .i64 0) := (blk_cell h9 0).trans rfl
              have c91 : (wr.alloc (Obj.cells #[.int .i64 f0, .bool false, .bool false] 119)).cell? ⟨w.heap.size, 1, none⟩ = some (.int .i64 0) := (blk_cell h9 1).trans rfl
              have z90 := blk_frozen h9 0
              have z91 := blk_frozen h9 1
              have H9z := Aside0.mk h9
              have h13 := blk_alloc H13w.out (Obj.cells #[.int .i64 f0, .bool false, .bool false] 119)
              have q130 : (wr.alloc (Obj.cells #[.int .i64 f0, .bool false, .bool false] 119)).cell? ⟨w1.heap.size, 0, none⟩ = some (.int .i64 4) := (blk_cell h13 0).trans rfl
              have q131 : (wr.alloc (Obj.cells #[.int .i64 f0, .bool false, .bool false] 119)).cell? ⟨w1.heap.size, 1, none⟩ = some (.int .i64 a) := (blk_cell h13 1).trans rfl
              clear h9 h13
              gi_wp2
              gi_region
              all_goals
                gi_wp2
                refine bodyPost_ret (results_list (rs := [.tmp 8, .cell 9 31]) rfl (by simp) (.tmp (.cell w.heap.size 31 #[.int .i64 4, .int .i64 a] (0, 0) _ rfl (blk_put (cs := #[.int .i64 4, .int .i64 0]) (blk_put (cs := #[.int .i64 0, .int .i64 0]) H9z.out 0 _ rfl) 1 _ rfl) Try.underlying31 rfl (by kernel_rfl) .nil))) rfl ?_
                refine ⟨by rw [HRE.out]; rfl, ?_⟩
                exact ((below_drew (below_alloc HBF.out _)).setCell (Nat.le_refl _) _).setCell (Nat.le_refl _) _
            · have d9 : decide (en - I < f0) = false := decide_eq_false hsz
              rw [rdGo, if_neg (by simp), if_neg (by simp), if_neg hsz] at hk
              have hwI : IntKind.i64.wrap (I + f0) = I + f0 := IntWalk.i64_in _ (by have := HL.out; omega)
              have hpf := hpo.2.1
              obtain ⟨A8, hsl8, hC8, hc8⟩ := print_mid_of (P := Try.prog) (Value.int .u8) (0 : Int) 22 5 .i64 .i64 Try.underlying22 hi5 hsz5 A0 c0 l0 I (I + f0) (by omega) (by omega) (by omega) HC.out
              obtain ⟨ys8, hy8⟩ : ∃ ys, ys = (l0.take ((I + f0)).toNat).drop (I).toNat := ⟨_, rfl⟩
              rw [← hy8] at hsl8 hC8 hc8
              have HY8 := Aside0.mk hy8
              obtain ⟨n1, hn1⟩ : ∃ n1, n1 = strOfNums ys8 := ⟨_, rfl⟩
              have hst : ∀ c, (convert 22 9 (.slice A8 ys8.length c)).run Try.prog (wr.alloc (Obj.cells #[.int .i64 f0, .bool false, .bool false] 119)) = .ok (.string n1) (wr.alloc (Obj.cells #[.int .i64 f0, .bool false, .bool false] 119)) := fun c => by
                rw [hn1]
                exact string_of_reads (P := Try.prog) Try.underlying22 Try.underlying5 Try.underlying9 (hC8 _ (Kd.reads_of_C (Kd.C_below HRw.out (below_alloc (Below.refl _ _) _))))
              have HNS : Aside0 (n1.size ≤ 70000) := ⟨by rw [hn1, strOfNums_size, hy8, List.length_drop, List.length_take]; have := HL.out; omega⟩
              have hsum : (out ++ n1).size = out.size + n1.size := ByteArray.size_append
              have HSUM := Aside0.mk hsum
              rw [← hy8, ← hn1] at hk
              have HRE := Aside0.mk hk
              have HLA : Aside0 (I + f0 ≤ en) := ⟨by omega⟩
              have HNX : Aside0 (a ≤ I + f0) := ⟨by omega⟩
              have HST2 : Aside0 (∀ c, (convert 22 9 (.slice A8 ys8.length c)).run Try.prog (wr.alloc (Obj.cells #[.int .i64 f0, .bool false, .bool false] 119)).drew = .ok (.string n1) (wr.alloc (Obj.cells #[.int .i64 f0, .bool false, .bool false] 119)).drew) := ⟨fun c => by
                rw [hn1]
                exact string_of_reads (P := Try.prog) Try.underlying22 Try.underlying5 Try.underlying9 (hC8 _ (Kd.reads_of_C (Kd.C_below HRw.out (below_drew (below_alloc (Below.refl _ _) _)))))⟩
              have q170 : (wr.alloc (Obj.cells #[.int .i64 f0, .bool false, .bool false] 119)).cell? ⟨wr.heap.size, 0, none⟩ = some (.int .i64 f0) := (blk_cell (blk_new wr _) 0).trans rfl
              clear hk h0 h1 h2 h3 hlt hen hee hpo hsum hC8 hc8 hy8 hn1 hsz hpf
              have hf1 : (9223372036854775807 < out.size + n1.size) = False := eq_false (by have := HOS.out; have := HNS.out; omega)
              have hf2 : decide ((9223372036854775807 : Int) < (out.size : Int) + (n1.size : Int)) = false := decide_eq_false (by have := HOS.out; have := HNS.out; omega)
              have hf3 : ((9223372036854775807 : Int) < (out.size : Int) + (n1.size : Int)) = False := eq_false (by have := HOS.out; have := HNS.out; omega)
              gi_wp2
              have hst2 : ∀ c, (convert 22 9 (.slice A8 ys8.length c)).run Try.prog (wr.alloc (Obj.cells #[.int .i64 f0, .bool false, .bool false] 119)).drew = .ok (.string n1) (wr.alloc (Obj.cells #[.int .i64 f0, .bool false, .bool false] 119)).drew := HST2.out
              gi_region
              all_goals
                gi_wp2
                exact ⟨⟨out ++ n1, (I + f0), J + 1, rfl, rfl, rfl, by have := HJ.out; omega, by have := HLT.out; omega, by have := HJ.out; have := HNX.out; omega, by have := HLA.out; omega, ⟨by rw [HJN.out]; exact HRE.out, by rw [HSUM.out, HJN.out]; have := HK.out.2; have := HNS.out; omega⟩, ⟨HBw.out.trans ((below_drew (below_alloc (Below.refl _ _) _)).mono HBw.out.size)⟩⟩, by show ((ps.length : Int) - (J + 1)).toNat < ((ps.length : Int) - J).toNat; have := HLT.out; omega⟩
      · have d8 : decide (J < (ps.length : Int)) = false := decide_eq_false hlt
        have hk := HK.out.1
        have hj : J.toNat = ps.length := by omega
        rw [hj, List.drop_length] at hk
        have HRE : Aside0 (RES = .inl (out, I)) := ⟨hk.symm⟩
        have HOS : Aside0 (out.size ≤ 210000) := ⟨by have := HK.out.2; have := HPL.out.1; omega⟩
        obtain ⟨c, hc⟩ := check_of HT.out.1 HT.out.2 (s := out) (by have := HOS.out; omega)
        have HCK := Aside0.mk hc
        have h9 := H9w.out
        have c90 : wr.cell? ⟨w.heap.size, 0, none⟩ = some (.int .i64 0) := (blk_cell h9 0).trans rfl
        have c91 : wr.cell? ⟨w.heap.size, 1, none⟩ = some (.int .i64 0) := (blk_cell h9 1).trans rfl
        have z90 := blk_frozen h9 0
        have z91 := blk_frozen h9 1
        have q130 : wr.cell? ⟨w1.heap.size, 0, none⟩ = some (.int .i64 4) := (blk_cell H13w.out 0).trans rfl
        have q131 : wr.cell? ⟨w1.heap.size, 1, none⟩ = some (.int .i64 a) := (blk_cell H13w.out 1).trans rfl
        clear hk h0 h1 h2 h3 hlt hj hc h9 hC hbA hbw1 hen hee
        by_cases hie : I = en
        · subst hie
          by_cases hc0 : c = 0
          · subst hc0
            gi_wp2_with (first | (first | refine ⟨trivial, fun _ => by omega, ?_⟩ | refine ⟨trivial, ?_⟩); refine (callsIn_wide.2 (rdata_Check.calls 1 t out 0 _ HCK.out)).mono ?_; rintro e5 w5 ⟨rfl, hb5⟩; have H5 := Aside0.mk hb5; have h9 := blk_below H9w.out hb5; have H9z := Aside0.mk h9; have c90 : w5.cell? ⟨w.heap.size, 0, none⟩ = some (.int .i64 0) := (blk_cell h9 0).trans rfl; have c91 : w5.cell? ⟨w.heap.size, 1, none⟩ = some (.int .i64 0) := (blk_cell h9 1).trans rfl; have z90 := blk_frozen h9 0; have z91 := blk_frozen h9 1; clear hb5 h9)
            refine bodyPost_ret (results_list (rs := [.tmp 8, .cell 9 31]) rfl (by simp) (.tmp (.cell w.heap.size 31 #[.int .i64 0, .int .i64 0] (0, 0) _ rfl (blk_put (cs := #[.int .i64 0, .int .i64 0]) (blk_put (cs := #[.int .i64 0, .int .i64 0]) H9z.out 0 _ rfl) 1 _ rfl) Try.underlying31 rfl (by kernel_rfl) .nil))) rfl ?_
            refine ⟨?_, ((HBF.out.trans (H5.out.mono HBF.out.size)).setCell (Nat.le_refl _) _).setCell (Nat.le_refl _) _⟩
            rw [HRE.out, readEnd_ok HCK.out]
            rfl
          · have hc1 : (c != 0) = true := bne_iff_ne.2 hc0
            have HC0 := Aside0.mk hc0
            clear hc0
            gi_wp2_with (first | (first | refine ⟨trivial, fun _ => by omega, ?_⟩ | refine ⟨trivial, ?_⟩); refine (callsIn_wide.2 (rdata_Check.calls 1 t out c _ HCK.out)).mono ?_; rintro e5 w5 ⟨rfl, hb5⟩; have H5 := Aside0.mk hb5; have h9 := blk_below H9w.out hb5; have H9z := Aside0.mk h9; have c90 : w5.cell? ⟨w.heap.size, 0, none⟩ = some (.int .i64 0) := (blk_cell h9 0).trans rfl; have c91 : w5.cell? ⟨w.heap.size, 1, none⟩ = some (.int .i64 0) := (blk_cell h9 1).trans rfl; have z90 := blk_frozen h9 0; have z91 := blk_frozen h9 1; have q130 : w5.cell? ⟨w1.heap.size, 0, none⟩ = some (.int .i64 4) := (blk_cell (blk_below H13w.out hb5) 0).trans rfl; have q131 : w5.cell? ⟨w1.heap.size, 1, none⟩ = some (.int .i64 a) := (blk_cell (blk_below H13w.out hb5) 1).trans rfl; clear hb5 h9)
            gi_region
            all_goals
              gi_wp2
              refine bodyPost_ret (results_list (rs := [.tmp 8, .cell 9 31]) rfl (by simp) (.tmp (.cell w.heap.size 31 #[.int .i64 4, .int .i64 a] (0, 0) _ rfl (blk_put (cs := #[.int .i64 4, .int .i64 0]) (blk_put (cs := #[.int .i64 0, .int .i64 0]) H9z.out 0 _ rfl) 1 _ rfl) Try.underlying31 rfl (by kernel_rfl) .nil))) rfl ?_
              refine ⟨?_, ((below_drew (HBF.out.trans (H5.out.mono HBF.out.size))).setCell (Nat.le_refl _) _).setCell (Nat.le_refl _) _⟩
              rw [HRE.out, readEnd_bad (fun h => HC0.out (by have h2 := HCK.out.symm.trans h.2; injection h2))]
              rfl
        · have hie2 : (I != en) = true := bne_iff_ne.2 hie
          have HIE := Aside0.mk hie
          clear hie
          gi_wp2_with (first | (refine ⟨trivial, ?_⟩))
          gi_region
          all_goals
            gi_wp2
            refine bodyPost_ret (results_list (rs := [.tmp 8, .cell 9 31]) rfl (by simp) (.tmp (.cell w.heap.size 31 #[.int .i64 4, .int .i64 a] (0, 0) _ rfl (blk_put (cs := #[.int .i64 4, .int .i64 0]) (blk_put (cs := #[.int .i64 0, .int .i64 0]) H9w.out 0 _ rfl) 1 _ rfl) Try.underlying31 rfl (by kernel_rfl) .nil))) rfl ?_
            refine ⟨?_, ((below_drew HBF.out).setCell (Nat.le_refl _) _).setCell (Nat.le_refl _) _⟩
            rw [HRE.out, readEnd_bad (fun h => HIE.out h.1)]
            rfl

theorem rdata_Read.calls (A0 : Option Addr) (c0 : Nat) (l0 : List Int) (a1 a2 a3 : Int) (r1 : ByteArray) (r2 r3 : Int) (w : World) (hr0 : Kd.C (Kd.int .u8) w A0 l0.length l0) (hc0 : l0.length ≤ c0) (h : rdata_Read.f l0 a1 a2 a3 = some (r1, r2, r3)) :
    Calls Try.prog 57 #[.slice A0 l0.length c0, .int .i64 a1, .int .i64 a2, .int .i64 a3] w fun e w' => e = .returned (.tuple #[.string r1, .agg #[.int .i64 r2, .int .i64 r3]]) ∧ Below w.heap.size w w' := by
  unfold rdata_Read.f at h
  by_cases hc : bytesB l0 = true ∧ l0.length ≤ 70000 ∧ (Lit.int .i64 a1).wf = true
  · rw [if_pos hc] at h
    injection h with h
    have := callsIn_wide.1 (rdata_Read.in_ 7 (by omega) A0 c0 l0 a1 a2 a3 w hr0 hc0 hc.1 hc.2.1 (bounds_i64 hc.2.2))
    rw [h] at this
    exact this
  · rw [if_neg hc] at h; cases h
end Go.Proofs.Ytjjbhpbmfpodeaa.X
end
section
namespace Go.Proofs.Ytjjbhpbmfpodeaa.X
open Go.RowKit Go.Proofs.YtjjbhpbmfpodeaaW.PrintWords Go.Proofs.YtjjbhpbmfpodeaaW.PrintLast Go.Proofs.YtjjbhpbmfpodeaaW.PrintMore
attribute [local go_sem] max2_int min2_int max_two min_two max_three min_three max_four min_four   -- for this text's walks alone
set_option linter.unusedVariables false
set_option linter.unusedSimpArgs false

/-! ### ostiarylaw06_awake: function 56 -/
def ostiarylaw06_awake.f (k : Nat)  : Option (Bool) := (rdata_Read.f (([1, 97, 0, 0, 5, 192, 0] : List Int)) 3 4 15).bind fun bt104 => (if bt104.2.1 = 0 then (if bt104.1.toList = ([0, 5, 1, 97, 0] : List UInt8) then ((rdata_Check.f k 1 (⟨#[49, 50, 51, 52]⟩ : ByteArray)).bind fun t108 => (if t108 = 0 then ((rdata_Check.f k 1 (⟨#[49, 50, 51, 52, 53]⟩ : ByteArray)).bind fun t109 => (some (t109 == 4))) else (some false))) else (some false)) else (some false))
theorem ostiarylaw06_awake.mono : ∀ k, LeO (ostiarylaw06_awake.f k ) (ostiarylaw06_awake.f (k + 1) ) := by
  intro  k
  unfold ostiarylaw06_awake.f
  repeat' first
      | (with_reducible exact rdata_Check.mono _ _ _)
      | (with_reducible exact LeO.refl _)
      | (with_reducible exact LeO.none _)
      | (with_reducible refine LeO.ite ?_ ?_)
      | (with_reducible refine LeO.bind ?_ (fun _ => ?_))
      | exact rdata_Check.mono _ _ _
      | exact LeO.none _
      | refine LeO.ite ?_ ?_
      | refine LeO.bind ?_ (fun _ => ?_)
set_option maxHeartbeats 8000000 in
set_option maxRecDepth 100000 in
theorem ostiarylaw06_awake.calls (k : Nat)  (r : Bool) (w : World) (h : ostiarylaw06_awake.f k  = some r) :
    Calls Try.prog 56 #[] w fun e w' => e = .returned (.bool r) ∧ Below w.heap.size w w' := by
  have hu31 := Try.underlying31
  have HB := Aside0.mk (Below.refl w.heap.size w)
  have H : ((rdata_Read.f (([1, 97, 0, 0, 5, 192, 0] : List Int)) 3 4 15).bind fun bt104 => (if bt104.2.1 = 0 then (if bt104.1.toList = ([0, 5, 1, 97, 0] : List UInt8) then ((rdata_Check.f k 1 (⟨#[49, 50, 51, 52]⟩ : ByteArray)).bind fun t108 => (if t108 = 0 then ((rdata_Check.f k 1 (⟨#[49, 50, 51, 52, 53]⟩ : ByteArray)).bind fun t109 => (some (t109 == 4))) else (some false))) else (some false)) else (some false))) = some r := h
  clear h
  obtain ⟨y101, hy101⟩ : ∃ y_ : List Int, y_ = (([1, 97, 0, 0, 5, 192, 0] : List Int)) := ⟨_, rfl⟩
  replace H : ((rdata_Read.f y101 3 4 15).bind fun bt104 => (if bt104.2.1 = 0 then (if bt104.1.toList = ([0, 5, 1, 97, 0] : List UInt8) then ((rdata_Check.f k 1 (⟨#[49, 50, 51, 52]⟩ : ByteArray)).bind fun t108 => (if t108 = 0 then ((rdata_Check.f k 1 (⟨#[49, 50, 51, 52, 53]⟩ : ByteArray)).bind fun t109 => (some (t109 == 4))) else (some false))) else (some false)) else (some false))) = some r := by first | (rw [hy101]; with_reducible exact H) | (have H2_ := (Option.bind_some _ _).symm.trans H; rw [hy101]; with_reducible exact H2_) | (have H2_ := (Option.bind_some _ _).symm.trans H; with_reducible exact H2_) | with_reducible exact H | (rw [hy101]; exact H) | exact H
  have Ny101 := Aside0.mk hy101
  clear hy101
  replace H := Option.bind_eq_some_iff.mp H
  obtain ⟨⟨t104, t105, t106⟩, A10, H⟩ := H
  replace H : (if t105 = 0 then (if t104.toList = ([0, 5, 1, 97, 0] : List UInt8) then ((rdata_Check.f k 1 (⟨#[49, 50, 51, 52]⟩ : ByteArray)).bind fun t108 => (if t108 = 0 then ((rdata_Check.f k 1 (⟨#[49, 50, 51, 52, 53]⟩ : ByteArray)).bind fun t109 => (some (t109 == 4))) else (some false))) else (some false)) else (some false)) = some r := H
  have A1 := Aside0.mk A10
  clear A10
  by_cases c2 : t105 = 0
  · rw [if_pos c2] at H
    have c2b0 : (t105 == 0) = true := beq_iff_eq.mpr c2
    have c2b1 : (t105 != 0) = false := bne_eq_false_iff_eq.mpr c2
    clear c2
    by_cases c3 : t104.toList = ([0, 5, 1, 97, 0] : List UInt8)
    · rw [if_pos c3] at H
      have c3b0 : (t104.toList == ([0, 5, 1, 97, 0] : List UInt8)) = true := beq_iff_eq.mpr c3
      have c3b1 : (t104.toList != ([0, 5, 1, 97, 0] : List UInt8)) = false := bne_eq_false_iff_eq.mpr c3
      clear c3
      replace H := Option.bind_eq_some_iff.mp H
      obtain ⟨t108, A40, H⟩ := H
      replace H : (if t108 = 0 then ((rdata_Check.f k 1 (⟨#[49, 50, 51, 52, 53]⟩ : ByteArray)).bind fun t109 => (some (t109 == 4))) else (some false)) = some r := H
      have A4 := Aside0.mk A40
      clear A40
      by_cases c5 : t108 = 0
      · rw [if_pos c5] at H
        have c5b0 : (t108 == 0) = true := beq_iff_eq.mpr c5
        have c5b1 : (t108 != 0) = false := bne_eq_false_iff_eq.mpr c5
        clear c5
        replace H := Option.bind_eq_some_iff.mp H
        obtain ⟨t109, A60, H⟩ := H
        replace H : (some (t109 == 4)) = some r := H
        have A6 := Aside0.mk A60
        clear A60
        obtain rfl := Option.some.inj H
        go_enter Try.func56, Try.ntmps56
        go_wp2_with (first | ((with_reducible refine gate_dst (N := 4) rfl ?_); refine Kd.R_lit (Kd.int .u8) _ 5 ?hg (N := 4) ?hd (xs := ([1, 97, 0, 0, 5, 192, 0] : List Int)) (inner := [.int .u8 1, .int .u8 97, .int .u8 0, .int .u8 0, .int .u8 5, .int .u8 192, .int .u8 0]) (ok := fun _ => True) (okp := fun _ => True) ?hr ?hp (fun _ hk => hk) trivial (Below.refl _ _) (Nat.le_refl _) (by simp) ?_; (case hd => rfl); (case hg => rfl); (case hr => first | (go_simp; done) | (go_simp; rfl)); (case hp => exact (Reps.one (show Kd.M (Kd.int .u8) _ _ _ 1 [.int .u8 1] from rfl) (Reps.one (show Kd.M (Kd.int .u8) _ _ _ 97 [.int .u8 97] from rfl) (Reps.one (show Kd.M (Kd.int .u8) _ _ _ 0 [.int .u8 0] from rfl) (Reps.one (show Kd.M (Kd.int .u8) _ _ _ 0 [.int .u8 0] from rfl) (Reps.one (show Kd.M (Kd.int .u8) _ _ _ 5 [.int .u8 5] from rfl) (Reps.one (show Kd.M (Kd.int .u8) _ _ _ 192 [.int .u8 192] from rfl) (Reps.one (show Kd.M (Kd.int .u8) _ _ _ 0 [.int .u8 0] from rfl) (Reps.none _ _))))))))); intro v102 w7 ho8 hb hg_ hnew_; clear hg_ hnew_; (first | rw [← Ny101.out] at ho8 | (simp only [Int.reduceToNat] at ho8; rw [← Ny101.out] at ho8)); have n0_ := Aside0.mk (Kd.R_lower ho8 (below_size (by repeat (first | (with_reducible first | exact HB.out | apply below_alloc | apply pw_below_drewN | apply below_drew1) | exact HB.out)))); have n1_ := Aside0.mk (below_step (by repeat (first | (with_reducible first | exact HB.out | apply below_alloc | apply pw_below_drewN | apply below_drew1) | exact HB.out)) hb); clear HB; have HO103 := n0_; have HB := n1_; clear n0_ n1_; clear hb ho8; obtain ⟨Ao9, co9, eo9⟩ := Kd.R_slice HO103.out; subst eo9) | ((with_reducible refine gate_callee (f := 57) rfl ?_); refine goesL_ (some 5) rfl rfl Try.func57 (by kernel_rfl) rfl #[.slice Ao9 y101.length co9, .int .i64 3, .int .i64 4, .int .i64 15] rfl (by (try simp only [List.map_toArray, List.map_cons, List.map_nil]); first | done | rfl | (simp only [List.length_drop, List.length_take]; rfl)) ?_; (with_reducible refine (rdata_Read.calls _ _ y101 3 4 15 t104 t105 t106 _ ?side1 ?side2 A1.out).mono ?_); (case side1 => repeat (first | exact (Kd.R_reads' HO103.out).2.2 | (with_reducible refine Kd.C_alloc ?_ _) | (with_reducible refine Kd.C_drewN ?_ _) | (with_reducible refine Kd.C_drew ?_))); (case side2 => exact (Kd.R_reads' HO103.out).2.1); rintro e w10 ⟨rfl, hb⟩; refine ⟨_, rfl, ?_⟩; have n0_ := Aside0.mk (Kd.R_below (by (with_reducible repeat (first | apply Kd.R_alloc | apply Kd.R_drewN | apply Kd.R_drew)); exact HO103.out) hb); have n1_ := Aside0.mk (below_step (by repeat (first | (with_reducible first | exact HB.out | apply below_alloc | apply pw_below_drewN | apply below_drew1) | exact HB.out)) hb); clear HO103; clear HB; have HO103 := n0_; have HB := n1_; clear n0_ n1_; (try clear hb); (try clear hb2); (try clear hk); (try clear hi)) | ((with_reducible refine gate_dst (N := 2) rfl ?_); refine box_event ?hg (N := 2) ?hd (cs := #[.int .i64 0, .int .i64 0]) (t := 31) ?hr ?_; (case hd => rfl); (case hg => rfl); (case hr => first | (go_simp; done) | (go_simp; rfl)); intro gb107 hg w11 hbox hb; have n0_ := Aside0.mk (Kd.R_below (by (with_reducible repeat (first | apply Kd.R_alloc | apply Kd.R_drewN | apply Kd.R_drew)); exact HO103.out) hb); have n1_ := Aside0.mk (below_step (by repeat (first | (with_reducible first | exact HB.out | apply below_alloc | apply pw_below_drewN | apply below_drew1) | exact HB.out)) hb); have n2_ := Aside0.mk (hbox); have n3_ := Aside0.mk ((by rw [hg]; exact (below_size (by repeat (first | (with_reducible first | exact HB.out | apply below_alloc | apply pw_below_drewN | apply below_drew1) | exact HB.out))) : w.heap.size ≤ gb107)); have n4_ := Aside0.mk ((by rw [hg]; exact (below_size (by repeat (first | (with_reducible first | exact HB.out | apply below_alloc | apply pw_below_drewN | apply below_drew1) | exact HB.out))) : w.heap.size ≤ gb107)); clear HO103; clear HB; have HO103 := n0_; have HB := n1_; have BK107 := n2_; have GW107 := n3_; have GE107 := n4_; clear n0_ n1_ n2_ n3_ n4_; clear hb hbox hg; have hcz12_0 : w11.cell? ⟨gb107, 0, none⟩ = some (.int .i64 0) := (blk_cell BK107.out 0).trans rfl; have hcz12_1 : w11.cell? ⟨gb107, 1, none⟩ = some (.int .i64 0) := (blk_cell BK107.out 1).trans rfl; have hfz12_0 := blk_frozen BK107.out 0; have hfz12_1 := blk_frozen BK107.out 1) | (go_at_call 58; (with_reducible refine (rdata_Check.calls k 1 (⟨#[49, 50, 51, 52]⟩ : ByteArray) t108 _ A4.out).mono ?_); rintro e w13 ⟨rfl, hb⟩; have n0_ := Aside0.mk (Kd.R_below (by (with_reducible repeat (first | apply Kd.R_alloc | apply Kd.R_drewN | apply Kd.R_drew)); exact (Kd.R_mono (Kd.R_far (p := ⟨gb107, 1, none⟩) (Kd.R_far (p := ⟨gb107, 0, none⟩) (Kd.R_types HO103.out BK107.out (by decide)) (fun _ hk => hk.2) (.int .i64 t105)) (fun _ hk => hk.2) (.int .i64 t106)) (fun _ h_ => h_.1))) hb); have n1_ := Aside0.mk (blk_below (g := gb107) (o := .cells #[.int .i64 t105, .int .i64 t106] 31 (0, 0)) (by (with_reducible repeat (first | refine blk_drewN ?_ _ | refine blk_drew ?_ | refine blk_alloc ?_ _)); refine blk_put (cs := #[.int .i64 t105, .int .i64 0]) ?_ 1 _ rfl; (with_reducible repeat (first | refine blk_drewN ?_ _ | refine blk_drew ?_ | refine blk_alloc ?_ _)); refine blk_put (cs := #[.int .i64 0, .int .i64 0]) ?_ 0 _ rfl; (with_reducible repeat (first | refine blk_drewN ?_ _ | refine blk_drew ?_ | refine blk_alloc ?_ _)); exact BK107.out) hb); have n2_ := Aside0.mk (below_step (by repeat (first | (with_reducible first | exact HB.out | apply below_alloc | apply pw_below_drewN | apply below_drew1 | refine below_set ?_ GE107.out) | exact HB.out)) hb); clear HO103; clear BK107; clear HB; have HO103 := n0_; have BK107 := n1_; have HB := n2_; clear n0_ n1_ n2_; (try clear hb); (try clear hb2); (try clear hk); (try clear hi)) | (go_at_call 58; (with_reducible refine (rdata_Check.calls k 1 (⟨#[49, 50, 51, 52, 53]⟩ : ByteArray) t109 _ A6.out).mono ?_); rintro e w14 ⟨rfl, hb⟩; have n0_ := Aside0.mk (Kd.R_below (by (with_reducible repeat (first | apply Kd.R_alloc | apply Kd.R_drewN | apply Kd.R_drew)); exact HO103.out) hb); have n1_ := Aside0.mk (blk_below (g := gb107) (o := .cells #[.int .i64 t105, .int .i64 t106] 31 (0, 0)) (by (with_reducible repeat (first | refine blk_drewN ?_ _ | refine blk_drew ?_ | refine blk_alloc ?_ _)); exact BK107.out) hb); have n2_ := Aside0.mk (below_step (by repeat (first | (with_reducible first | exact HB.out | apply below_alloc | apply pw_below_drewN | apply below_drew1 | refine below_set ?_ GE107.out) | exact HB.out)) hb); clear HO103; clear BK107; clear HB; have HO103 := n0_; have BK107 := n1_; have HB := n2_; clear n0_ n1_ n2_; (try clear hb); (try clear hb2); (try clear hk); (try clear hi)))
        go_ret
        exact ⟨by first | rfl | (simp [errW_none, errW_some] <;> rfl) | (simp [*, errW_none, errW_some] <;> rfl), by repeat (first | (with_reducible first | exact HB.out | apply below_alloc | apply pw_below_drewN | apply below_drew1 | refine below_set ?_ GE107.out) | exact HB.out)⟩
      · rw [if_neg c5] at H
        have c5b0 : (t108 == 0) = false := beq_eq_false_iff_ne.mpr c5
        have c5b1 : (t108 != 0) = true := bne_iff_ne.mpr c5
        obtain rfl := Option.some.inj H
        go_enter Try.func56, Try.ntmps56
        go_wp2_with (first | ((with_reducible refine gate_dst (N := 4) rfl ?_); refine Kd.R_lit (Kd.int .u8) _ 5 ?hg (N := 4) ?hd (xs := ([1, 97, 0, 0, 5, 192, 0] : List Int)) (inner := [.int .u8 1, .int .u8 97, .int .u8 0, .int .u8 0, .int .u8 5, .int .u8 192, .int .u8 0]) (ok := fun _ => True) (okp := fun _ => True) ?hr ?hp (fun _ hk => hk) trivial (Below.refl _ _) (Nat.le_refl _) (by simp) ?_; (case hd => rfl); (case hg => rfl); (case hr => first | (go_simp; done) | (go_simp; rfl)); (case hp => exact (Reps.one (show Kd.M (Kd.int .u8) _ _ _ 1 [.int .u8 1] from rfl) (Reps.one (show Kd.M (Kd.int .u8) _ _ _ 97 [.int .u8 97] from rfl) (Reps.one (show Kd.M (Kd.int .u8) _ _ _ 0 [.int .u8 0] from rfl) (Reps.one (show Kd.M (Kd.int .u8) _ _ _ 0 [.int .u8 0] from rfl) (Reps.one (show Kd.M (Kd.int .u8) _ _ _ 5 [.int .u8 5] from rfl) (Reps.one (show Kd.M (Kd.int .u8) _ _ _ 192 [.int .u8 192] from rfl) (Reps.one (show Kd.M (Kd.int .u8) _ _ _ 0 [.int .u8 0] from rfl) (Reps.none _ _))))))))); intro v102 w15 ho16 hb hg_ hnew_; clear hg_ hnew_; (first | rw [← Ny101.out] at ho16 | (simp only [Int.reduceToNat] at ho16; rw [← Ny101.out] at ho16)); have n0_ := Aside0.mk (Kd.R_lower ho16 (below_size (by repeat (first | (with_reducible first | exact HB.out | apply below_alloc | apply pw_below_drewN | apply below_drew1) | exact HB.out)))); have n1_ := Aside0.mk (below_step (by repeat (first | (with_reducible first | exact HB.out | apply below_alloc | apply pw_below_drewN | apply below_drew1) | exact HB.out)) hb); clear HB; have HO103 := n0_; have HB := n1_; clear n0_ n1_; clear hb ho16; obtain ⟨Ao17, co17, eo17⟩ := Kd.R_slice HO103.out; subst eo17) | ((with_reducible refine gate_callee (f := 57) rfl ?_); refine goesL_ (some 5) rfl rfl Try.func57 (by kernel_rfl) rfl #[.slice Ao17 y101.length co17, .int .i64 3, .int .i64 4, .int .i64 15] rfl (by (try simp only [List.map_toArray, List.map_cons, List.map_nil]); first | done | rfl | (simp only [List.length_drop, List.length_take]; rfl)) ?_; (with_reducible refine (rdata_Read.calls _ _ y101 3 4 15 t104 t105 t106 _ ?side1 ?side2 A1.out).mono ?_); (case side1 => repeat (first | exact (Kd.R_reads' HO103.out).2.2 | (with_reducible refine Kd.C_alloc ?_ _) | (with_reducible refine Kd.C_drewN ?_ _) | (with_reducible refine Kd.C_drew ?_))); (case side2 => exact (Kd.R_reads' HO103.out).2.1); rintro e w18 ⟨rfl, hb⟩; refine ⟨_, rfl, ?_⟩; have n0_ := Aside0.mk (Kd.R_below (by (with_reducible repeat (first | apply Kd.R_alloc | apply Kd.R_drewN | apply Kd.R_drew)); exact HO103.out) hb); have n1_ := Aside0.mk (below_step (by repeat (first | (with_reducible first | exact HB.out | apply below_alloc | apply pw_below_drewN | apply below_drew1) | exact HB.out)) hb); clear HO103; clear HB; have HO103 := n0_; have HB := n1_; clear n0_ n1_; (try clear hb); (try clear hb2); (try clear hk); (try clear hi)) | ((with_reducible refine gate_dst (N := 2) rfl ?_); refine box_event ?hg (N := 2) ?hd (cs := #[.int .i64 0, .int .i64 0]) (t := 31) ?hr ?_; (case hd => rfl); (case hg => rfl); (case hr => first | (go_simp; done) | (go_simp; rfl)); intro gb107 hg w19 hbox hb; have n0_ := Aside0.mk (Kd.R_below (by (with_reducible repeat (first | apply Kd.R_alloc | apply Kd.R_drewN | apply Kd.R_drew)); exact HO103.out) hb); have n1_ := Aside0.mk (below_step (by repeat (first | (with_reducible first | exact HB.out | apply below_alloc | apply pw_below_drewN | apply below_drew1) | exact HB.out)) hb); have n2_ := Aside0.mk (hbox); have n3_ := Aside0.mk ((by rw [hg]; exact (below_size (by repeat (first | (with_reducible first | exact HB.out | apply below_alloc | apply pw_below_drewN | apply below_drew1) | exact HB.out))) : w.heap.size ≤ gb107)); have n4_ := Aside0.mk ((by rw [hg]; exact (below_size (by repeat (first | (with_reducible first | exact HB.out | apply below_alloc | apply pw_below_drewN | apply below_drew1) | exact HB.out))) : w.heap.size ≤ gb107)); clear HO103; clear HB; have HO103 := n0_; have HB := n1_; have BK107 := n2_; have GW107 := n3_; have GE107 := n4_; clear n0_ n1_ n2_ n3_ n4_; clear hb hbox hg; have hcz20_0 : w19.cell? ⟨gb107, 0, none⟩ = some (.int .i64 0) := (blk_cell BK107.out 0).trans rfl; have hcz20_1 : w19.cell? ⟨gb107, 1, none⟩ = some (.int .i64 0) := (blk_cell BK107.out 1).trans rfl; have hfz20_0 := blk_frozen BK107.out 0; have hfz20_1 := blk_frozen BK107.out 1) | (go_at_call 58; (with_reducible refine (rdata_Check.calls k 1 (⟨#[49, 50, 51, 52]⟩ : ByteArray) t108 _ A4.out).mono ?_); rintro e w21 ⟨rfl, hb⟩; have n0_ := Aside0.mk (Kd.R_below (by (with_reducible repeat (first | apply Kd.R_alloc | apply Kd.R_drewN | apply Kd.R_drew)); exact (Kd.R_mono (Kd.R_far (p := ⟨gb107, 1, none⟩) (Kd.R_far (p := ⟨gb107, 0, none⟩) (Kd.R_types HO103.out BK107.out (by decide)) (fun _ hk => hk.2) (.int .i64 t105)) (fun _ hk => hk.2) (.int .i64 t106)) (fun _ h_ => h_.1))) hb); have n1_ := Aside0.mk (blk_below (g := gb107) (o := .cells #[.int .i64 t105, .int .i64 t106] 31 (0, 0)) (by (with_reducible repeat (first | refine blk_drewN ?_ _ | refine blk_drew ?_ | refine blk_alloc ?_ _)); refine blk_put (cs := #[.int .i64 t105, .int .i64 0]) ?_ 1 _ rfl; (with_reducible repeat (first | refine blk_drewN ?_ _ | refine blk_drew ?_ | refine blk_alloc ?_ _)); refine blk_put (cs := #[.int .i64 0, .int .i64 0]) ?_ 0 _ rfl; (with_reducible repeat (first | refine blk_drewN ?_ _ | refine blk_drew ?_ | refine blk_alloc ?_ _)); exact BK107.out) hb); have n2_ := Aside0.mk (below_step (by repeat (first | (with_reducible first | exact HB.out | apply below_alloc | apply pw_below_drewN | apply below_drew1 | refine below_set ?_ GE107.out) | exact HB.out)) hb); clear HO103; clear BK107; clear HB; have HO103 := n0_; have BK107 := n1_; have HB := n2_; clear n0_ n1_ n2_; (try clear hb); (try clear hb2); (try clear hk); (try clear hi)))
        go_ret
        exact ⟨by first | rfl | (simp [errW_none, errW_some] <;> rfl) | (simp [*, errW_none, errW_some] <;> rfl), by repeat (first | (with_reducible first | exact HB.out | apply below_alloc | apply pw_below_drewN | apply below_drew1 | refine below_set ?_ GE107.out) | exact HB.out)⟩
    · rw [if_neg c3] at H
      have c3b0 : (t104.toList == ([0, 5, 1, 97, 0] : List UInt8)) = false := beq_eq_false_iff_ne.mpr c3
      have c3b1 : (t104.toList != ([0, 5, 1, 97, 0] : List UInt8)) = true := bne_iff_ne.mpr c3
      obtain rfl := Option.some.inj H
      go_enter Try.func56, Try.ntmps56
      go_wp2_with (first | ((with_reducible refine gate_dst (N := 4) rfl ?_); refine Kd.R_lit (Kd.int .u8) _ 5 ?hg (N := 4) ?hd (xs := ([1, 97, 0, 0, 5, 192, 0] : List Int)) (inner := [.int .u8 1, .int .u8 97, .int .u8 0, .int .u8 0, .int .u8 5, .int .u8 192, .int .u8 0]) (ok := fun _ => True) (okp := fun _ => True) ?hr ?hp (fun _ hk => hk) trivial (Below.refl _ _) (Nat.le_refl _) (by simp) ?_; (case hd => rfl); (case hg => rfl); (case hr => first | (go_simp; done) | (go_simp; rfl)); (case hp => exact (Reps.one (show Kd.M (Kd.int .u8) _ _ _ 1 [.int .u8 1] from rfl) (Reps.one (show Kd.M (Kd.int .u8) _ _ _ 97 [.int .u8 97] from rfl) (Reps.one (show Kd.M (Kd.int .u8) _ _ _ 0 [.int .u8 0] from rfl) (Reps.one (show Kd.M (Kd.int .u8) _ _ _ 0 [.int .u8 0] from rfl) (Reps.one (show Kd.M (Kd.int .u8) _ _ _ 5 [.int .u8 5] from rfl) (Reps.one (show Kd.M (Kd.int .u8) _ _ _ 192 [.int .u8 192] from rfl) (Reps.one (show Kd.M (Kd.int .u8) _ _ _ 0 [.int .u8 0] from rfl) (Reps.none _ _))))))))); intro v102 w22 ho23 hb hg_ hnew_; clear hg_ hnew_; (first | rw [← Ny101.out] at ho23 | (simp only [Int.reduceToNat] at ho23; rw [← Ny101.out] at ho23)); have n0_ := Aside0.mk (Kd.R_lower ho23 (below_size (by repeat (first | (with_reducible first | exact HB.out | apply below_alloc | apply pw_below_drewN | apply below_drew1) | exact HB.out)))); have n1_ := Aside0.mk (below_step (by repeat (first | (with_reducible first | exact HB.out | apply below_alloc | apply pw_below_drewN | apply below_drew1) | exact HB.out)) hb); clear HB; have HO103 := n0_; have HB := n1_; clear n0_ n1_; clear hb ho23; obtain ⟨Ao24, co24, eo24⟩ := Kd.R_slice HO103.out; subst eo24) | ((with_reducible refine gate_callee (f := 57) rfl ?_); refine goesL_ (some 5) rfl rfl Try.func57 (by kernel_rfl) rfl #[.slice Ao24 y101.length co24, .int .i64 3, .int .i64 4, .int .i64 15] rfl (by (try simp only [List.map_toArray, List.map_cons, List.map_nil]); first | done | rfl | (simp only [List.length_drop, List.length_take]; rfl)) ?_; (with_reducible refine (rdata_Read.calls _ _ y101 3 4 15 t104 t105 t106 _ ?side1 ?side2 A1.out).mono ?_); (case side1 => repeat (first | exact (Kd.R_reads' HO103.out).2.2 | (with_reducible refine Kd.C_alloc ?_ _) | (with_reducible refine Kd.C_drewN ?_ _) | (with_reducible refine Kd.C_drew ?_))); (case side2 => exact (Kd.R_reads' HO103.out).2.1); rintro e w25 ⟨rfl, hb⟩; refine ⟨_, rfl, ?_⟩; have n0_ := Aside0.mk (Kd.R_below (by (with_reducible repeat (first | apply Kd.R_alloc | apply Kd.R_drewN | apply Kd.R_drew)); exact HO103.out) hb); have n1_ := Aside0.mk (below_step (by repeat (first | (with_reducible first | exact HB.out | apply below_alloc | apply pw_below_drewN | apply below_drew1) | exact HB.out)) hb); clear HO103; clear HB; have HO103 := n0_; have HB := n1_; clear n0_ n1_; (try clear hb); (try clear hb2); (try clear hk); (try clear hi)) | ((with_reducible refine gate_dst (N := 2) rfl ?_); refine box_event ?hg (N := 2) ?hd (cs := #[.int .i64 0, .int .i64 0]) (t := 31) ?hr ?_; (case hd => rfl); (case hg => rfl); (case hr => first | (go_simp; done) | (go_simp; rfl)); intro gb107 hg w26 hbox hb; have n0_ := Aside0.mk (Kd.R_below (by (with_reducible repeat (first | apply Kd.R_alloc | apply Kd.R_drewN | apply Kd.R_drew)); exact HO103.out) hb); have n1_ := Aside0.mk (below_step (by repeat (first | (with_reducible first | exact HB.out | apply below_alloc | apply pw_below_drewN | apply below_drew1) | exact HB.out)) hb); have n2_ := Aside0.mk (hbox); have n3_ := Aside0.mk ((by rw [hg]; exact (below_size (by repeat (first | (with_reducible first | exact HB.out | apply below_alloc | apply pw_below_drewN | apply below_drew1) | exact HB.out))) : w.heap.size ≤ gb107)); have n4_ := Aside0.mk ((by rw [hg]; exact (below_size (by repeat (first | (with_reducible first | exact HB.out | apply below_alloc | apply pw_below_drewN | apply below_drew1) | exact HB.out))) : w.heap.size ≤ gb107)); clear HO103; clear HB; have HO103 := n0_; have HB := n1_; have BK107 := n2_; have GW107 := n3_; have GE107 := n4_; clear n0_ n1_ n2_ n3_ n4_; clear hb hbox hg; have hcz27_0 : w26.cell? ⟨gb107, 0, none⟩ = some (.int .i64 0) := (blk_cell BK107.out 0).trans rfl; have hcz27_1 : w26.cell? ⟨gb107, 1, none⟩ = some (.int .i64 0) := (blk_cell BK107.out 1).trans rfl; have hfz27_0 := blk_frozen BK107.out 0; have hfz27_1 := blk_frozen BK107.out 1))
      go_ret
      exact ⟨by first | rfl | (simp [errW_none, errW_some] <;> rfl) | (simp [*, errW_none, errW_some] <;> rfl), by repeat (first | (with_reducible first | exact HB.out | apply below_alloc | apply pw_below_drewN | apply below_drew1 | refine below_set ?_ GE107.out) | exact HB.out)⟩
  · rw [if_neg c2] at H
    have c2b0 : (t105 == 0) = false := beq_eq_false_iff_ne.mpr c2
    have c2b1 : (t105 != 0) = true := bne_iff_ne.mpr c2
    obtain rfl := Option.some.inj H
    go_enter Try.func56, Try.ntmps56
    go_wp2_with (first | ((with_reducible refine gate_dst (N := 4) rfl ?_); refine Kd.R_lit (Kd.int .u8) _ 5 ?hg (N := 4) ?hd (xs := ([1, 97, 0, 0, 5, 192, 0] : List Int)) (inner := [.int .u8 1, .int .u8 97, .int .u8 0, .int .u8 0, .int .u8 5, .int .u8 192, .int .u8 0]) (ok := fun _ => True) (okp := fun _ => True) ?hr ?hp (fun _ hk => hk) trivial (Below.refl _ _) (Nat.le_refl _) (by simp) ?_; (case hd => rfl); (case hg => rfl); (case hr => first | (go_simp; done) | (go_simp; rfl)); (case hp => exact (Reps.one (show Kd.M (Kd.int .u8) _ _ _ 1 [.int .u8 1] from rfl) (Reps.one (show Kd.M (Kd.int .u8) _ _ _ 97 [.int .u8 97] from rfl) (Reps.one (show Kd.M (Kd.int .u8) _ _ _ 0 [.int .u8 0] from rfl) (Reps.one (show Kd.M (Kd.int .u8) _ _ _ 0 [.int .u8 0] from rfl) (Reps.one (show Kd.M (Kd.int .u8) _ _ _ 5 [.int .u8 5] from rfl) (Reps.one (show Kd.M (Kd.int .u8) _ _ _ 192 [.int .u8 192] from rfl) (Reps.one (show Kd.M (Kd.int .u8) _ _ _ 0 [.int .u8 0] from rfl) (Reps.none _ _))))))))); intro v102 w28 ho29 hb hg_ hnew_; clear hg_ hnew_; (first | rw [← Ny101.out] at ho29 | (simp only [Int.reduceToNat] at ho29; rw [← Ny101.out] at ho29)); have n0_ := Aside0.mk (Kd.R_lower ho29 (below_size (by repeat (first | (with_reducible first | exact HB.out | apply below_alloc | apply pw_below_drewN | apply below_drew1) | exact HB.out)))); have n1_ := Aside0.mk (below_step (by repeat (first | (with_reducible first | exact HB.out | apply below_alloc | apply pw_below_drewN | apply below_drew1) | exact HB.out)) hb); clear HB; have HO103 := n0_; have HB := n1_; clear n0_ n1_; clear hb ho29; obtain ⟨Ao30, co30, eo30⟩ := Kd.R_slice HO103.out; subst eo30) | ((with_reducible refine gate_callee (f := 57) rfl ?_); refine goesL_ (some 5) rfl rfl Try.func57 (by kernel_rfl) rfl #[.slice Ao30 y101.length co30, .int .i64 3, .int .i64 4, .int .i64 15] rfl (by (try simp only [List.map_toArray, List.map_cons, List.map_nil]); first | done | rfl | (simp only [List.length_drop, List.length_take]; rfl)) ?_; (with_reducible refine (rdata_Read.calls _ _ y101 3 4 15 t104 t105 t106 _ ?side1 ?side2 A1.out).mono ?_); (case side1 => repeat (first | exact (Kd.R_reads' HO103.out).2.2 | (with_reducible refine Kd.C_alloc ?_ _) | (with_reducible refine Kd.C_drewN ?_ _) | (with_reducible refine Kd.C_drew ?_))); (case side2 => exact (Kd.R_reads' HO103.out).2.1); rintro e w31 ⟨rfl, hb⟩; refine ⟨_, rfl, ?_⟩; have n0_ := Aside0.mk (Kd.R_below (by (with_reducible repeat (first | apply Kd.R_alloc | apply Kd.R_drewN | apply Kd.R_drew)); exact HO103.out) hb); have n1_ := Aside0.mk (below_step (by repeat (first | (with_reducible first | exact HB.out | apply below_alloc | apply pw_below_drewN | apply below_drew1) | exact HB.out)) hb); clear HO103; clear HB; have HO103 := n0_; have HB := n1_; clear n0_ n1_; (try clear hb); (try clear hb2); (try clear hk); (try clear hi)) | ((with_reducible refine gate_dst (N := 2) rfl ?_); refine box_event ?hg (N := 2) ?hd (cs := #[.int .i64 0, .int .i64 0]) (t := 31) ?hr ?_; (case hd => rfl); (case hg => rfl); (case hr => first | (go_simp; done) | (go_simp; rfl)); intro gb107 hg w32 hbox hb; have n0_ := Aside0.mk (Kd.R_below (by (with_reducible repeat (first | apply Kd.R_alloc | apply Kd.R_drewN | apply Kd.R_drew)); exact HO103.out) hb); have n1_ := Aside0.mk (below_step (by repeat (first | (with_reducible first | exact HB.out | apply below_alloc | apply pw_below_drewN | apply below_drew1) | exact HB.out)) hb); have n2_ := Aside0.mk (hbox); have n3_ := Aside0.mk ((by rw [hg]; exact (below_size (by repeat (first | (with_reducible first | exact HB.out | apply below_alloc | apply pw_below_drewN | apply below_drew1) | exact HB.out))) : w.heap.size ≤ gb107)); have n4_ := Aside0.mk ((by rw [hg]; exact (below_size (by repeat (first | (with_reducible first | exact HB.out | apply below_alloc | apply pw_below_drewN | apply below_drew1) | exact HB.out))) : w.heap.size ≤ gb107)); clear HO103; clear HB; have HO103 := n0_; have HB := n1_; have BK107 := n2_; have GW107 := n3_; have GE107 := n4_; clear n0_ n1_ n2_ n3_ n4_; clear hb hbox hg; have hcz33_0 : w32.cell? ⟨gb107, 0, none⟩ = some (.int .i64 0) := (blk_cell BK107.out 0).trans rfl; have hcz33_1 : w32.cell? ⟨gb107, 1, none⟩ = some (.int .i64 0) := (blk_cell BK107.out 1).trans rfl; have hfz33_0 := blk_frozen BK107.out 0; have hfz33_1 := blk_frozen BK107.out 1))
    go_ret
    exact ⟨by first | rfl | (simp [errW_none, errW_some] <;> rfl) | (simp [*, errW_none, errW_some] <;> rfl), by repeat (first | (with_reducible first | exact HB.out | apply below_alloc | apply pw_below_drewN | apply below_drew1 | refine below_set ?_ GE107.out) | exact HB.out)⟩

end Go.Proofs.Ytjjbhpbmfpodeaa.X
end
section
namespace Go.Proofs.Ytjjbhpbmfpodeaa.X
open Go.RowKit Go.Proofs.YtjjbhpbmfpodeaaW.PrintWords Go.Proofs.YtjjbhpbmfpodeaaW.PrintLast Go.Proofs.YtjjbhpbmfpodeaaW.PrintMore
attribute [local go_sem] max2_int min2_int max_two min_two max_three min_three max_four min_four   -- for this text's walks alone
set_option linter.unusedVariables false
set_option linter.unusedSimpArgs false

/-! ### rdata_Target: function 59 -/
def rdata_Target.f (k : Nat) (a0 : Int) (a1 : ByteArray) : Option (ByteArray × Bool) := if a0 = 2 then ((rdata_Check.f k a0 a1).bind fun t101 => (if t101 = 0 then ((rdata_split.f a0 a1).bind fun bt102 => (if 0 ≤ (wrap64 ((bt102.1.length : Int) - 1)) then (if (wrap64 ((bt102.1.length : Int) - 1)) < (bt102.1.length : Int) then (some ((rd_T124 bt102.1 (wrap64 ((bt102.1.length : Int) - 1))).f0, true)) else (none)) else (none))) else (some ((⟨#[]⟩ : ByteArray), false)))) else (if a0 = 5 then ((rdata_Check.f k a0 a1).bind fun t107 => (if t107 = 0 then ((rdata_split.f a0 a1).bind fun bt108 => (if 0 ≤ (wrap64 ((bt108.1.length : Int) - 1)) then (if (wrap64 ((bt108.1.length : Int) - 1)) < (bt108.1.length : Int) then (some ((rd_T124 bt108.1 (wrap64 ((bt108.1.length : Int) - 1))).f0, true)) else (none)) else (none))) else (some ((⟨#[]⟩ : ByteArray), false)))) else (if a0 = 12 then ((rdata_Check.f k a0 a1).bind fun t113 => (if t113 = 0 then ((rdata_split.f a0 a1).bind fun bt114 => (if 0 ≤ (wrap64 ((bt114.1.length : Int) - 1)) then (if (wrap64 ((bt114.1.length : Int) - 1)) < (bt114.1.length : Int) then (some ((rd_T124 bt114.1 (wrap64 ((bt114.1.length : Int) - 1))).f0, true)) else (none)) else (none))) else (some ((⟨#[]⟩ : ByteArray), false)))) else (if a0 = 15 then ((rdata_Check.f k a0 a1).bind fun t119 => (if t119 = 0 then ((rdata_split.f a0 a1).bind fun bt120 => (if 0 ≤ (wrap64 ((bt120.1.length : Int) - 1)) then (if (wrap64 ((bt120.1.length : Int) - 1)) < (bt120.1.length : Int) then (some ((rd_T124 bt120.1 (wrap64 ((bt120.1.length : Int) - 1))).f0, true)) else (none)) else (none))) else (some ((⟨#[]⟩ : ByteArray), false)))) else (some ((⟨#[]⟩ : ByteArray), false)))))
set_option maxHeartbeats 8000000 in
set_option maxRecDepth 100000 in
theorem rdata_Target.calls (k : Nat) (a0 : Int) (a1 : ByteArray) (r1 : ByteArray) (r2 : Bool) (w : World) (h : rdata_Target.f k a0 a1 = some (r1, r2)) :
    Calls Try.prog 59 #[.int .i64 a0, .string a1] w fun e w' => e = .returned (.tuple #[.string r1, .bool r2]) ∧ Below w.heap.size w w' := by
  have HB := Aside0.mk (Below.refl w.heap.size w)
  have H : (if a0 = 2 then ((rdata_Check.f k a0 a1).bind fun t101 => (if t101 = 0 then ((rdata_split.f a0 a1).bind fun bt102 => (if 0 ≤ (wrap64 ((bt102.1.length : Int) - 1)) then (if (wrap64 ((bt102.1.length : Int) - 1)) < (bt102.1.length : Int) then (some ((rd_T124 bt102.1 (wrap64 ((bt102.1.length : Int) - 1))).f0, true)) else (none)) else (none))) else (some ((⟨#[]⟩ : ByteArray), false)))) else (if a0 = 5 then ((rdata_Check.f k a0 a1).bind fun t107 => (if t107 = 0 then ((rdata_split.f a0 a1).bind fun bt108 => (if 0 ≤ (wrap64 ((bt108.1.length : Int) - 1)) then (if (wrap64 ((bt108.1.length : Int) - 1)) < (bt108.1.length : Int) then (some ((rd_T124 bt108.1 (wrap64 ((bt108.1.length : Int) - 1))).f0, true)) else (none)) else (none))) else (some ((⟨#[]⟩ : ByteArray), false)))) else (if a0 = 12 then ((rdata_Check.f k a0 a1).bind fun t113 => (if t113 = 0 then ((rdata_split.f a0 a1).bind fun bt114 => (if 0 ≤ (wrap64 ((bt114.1.length : Int) - 1)) then (if (wrap64 ((bt114.1.length : Int) - 1)) < (bt114.1.length : Int) then (some ((rd_T124 bt114.1 (wrap64 ((bt114.1.length : Int) - 1))).f0, true)) else (none)) else (none))) else (some ((⟨#[]⟩ : ByteArray), false)))) else (if a0 = 15 then ((rdata_Check.f k a0 a1).bind fun t119 => (if t119 = 0 then ((rdata_split.f a0 a1).bind fun bt120 => (if 0 ≤ (wrap64 ((bt120.1.length : Int) - 1)) then (if (wrap64 ((bt120.1.length : Int) - 1)) < (bt120.1.length : Int) then (some ((rd_T124 bt120.1 (wrap64 ((bt120.1.length : Int) - 1))).f0, true)) else (none)) else (none))) else (some ((⟨#[]⟩ : ByteArray), false)))) else (some ((⟨#[]⟩ : ByteArray), false)))))) = some (r1, r2) := h
  clear h
  by_cases c3 : a0 = 2
  · rw [if_pos c3] at H
    have c3b0 : (a0 == 2) = true := beq_iff_eq.mpr c3
    have c3b1 : (a0 != 2) = false := bne_eq_false_iff_eq.mpr c3
    clear c3
    replace H := Option.bind_eq_some_iff.mp H
    obtain ⟨t101, A40, H⟩ := H
    replace H : (if t101 = 0 then ((rdata_split.f a0 a1).bind fun bt102 => (if 0 ≤ (wrap64 ((bt102.1.length : Int) - 1)) then (if (wrap64 ((bt102.1.length : Int) - 1)) < (bt102.1.length : Int) then (some ((rd_T124 bt102.1 (wrap64 ((bt102.1.length : Int) - 1))).f0, true)) else (none)) else (none))) else (some ((⟨#[]⟩ : ByteArray), false))) = some (r1, r2) := H
    have A4 := Aside0.mk A40
    clear A40
    by_cases c5 : t101 = 0
    · rw [if_pos c5] at H
      have c5b0 : (t101 == 0) = true := beq_iff_eq.mpr c5
      have c5b1 : (t101 != 0) = false := bne_eq_false_iff_eq.mpr c5
      clear c5
      replace H := Option.bind_eq_some_iff.mp H
      obtain ⟨⟨t102, t103⟩, A60, H⟩ := H
      replace H : (if 0 ≤ (wrap64 ((t102.length : Int) - 1)) then (if (wrap64 ((t102.length : Int) - 1)) < (t102.length : Int) then (some ((rd_T124 t102 (wrap64 ((t102.length : Int) - 1))).f0, true)) else (none)) else (none)) = some (r1, r2) := H
      have A6 := Aside0.mk A60
      clear A60
      obtain ⟨ji7, hji7⟩ : ∃ j_ : Int, (wrap64 ((t102.length : Int) - 1)) = j_ := ⟨_, rfl⟩
      replace H : (if 0 ≤ (ji7) then (if (ji7) < (t102.length : Int) then (some ((rd_T124 t102 (ji7)).f0, true)) else (none)) else (none)) = some (r1, r2) := by first | (rw [hji7] at H; exact H) | (simp only [hji7] at H ⊢; exact H)
      (try rw [hji7] at A4)
      (try rw [hji7] at A6)
      have hji7w : (IntKind.i64.wrap ((t102.length : Int) - 1)) = ji7 := (i64_w _).trans hji7
      by_cases c8 : 0 ≤ (ji7)
      · rw [if_pos c8] at H
        have c8b0 : decide (0 ≤ (ji7)) = true := decide_eq_true c8
        clear c8
        by_cases c9 : (ji7) < (t102.length : Int)
        · rw [if_pos c9] at H
          have c9b0 : decide ((ji7) < (t102.length : Int)) = true := decide_eq_true c9
          clear c9
          simp only [Option.some.injEq, Prod.mk.injEq] at H
          obtain ⟨rfl, rfl⟩ := H
          go_enter Try.func59, Try.ntmps59
          go_wp2_with (first | (go_at_call 58; (with_reducible refine (rdata_Check.calls k a0 a1 t101 _ A4.out).mono ?_); rintro e w10 ⟨rfl, hb⟩; have n0_ := Aside0.mk (below_step (by repeat (first | (with_reducible first | exact HB.out | apply below_alloc | apply pw_below_drewN | apply below_drew1) | exact HB.out)) hb); clear HB; have HB := n0_; clear n0_; (try clear hb); (try clear hb2); (try clear hk); (try clear hi)) | ((with_reducible refine gate_callee (f := 97) rfl ?_); refine goesL_ (some 31) rfl rfl Try.func97 (by kernel_rfl) rfl #[.int .i64 a0, .string a1] rfl (by (try simp only [List.map_toArray, List.map_cons, List.map_nil]); first | done | rfl | (simp only [List.length_drop, List.length_take]; rfl)) ?_; (with_reducible refine (rdata_split.calls a0 a1 t102 t103 _ A6.out).mono ?_); rintro e w11 ⟨v104, rfl, ho0, hb⟩; refine ⟨_, rfl, ?_⟩; have n0_ := Aside0.mk (Kd.R_lower ho0 (below_size (by repeat (first | (with_reducible first | exact HB.out | apply below_alloc | apply pw_below_drewN | apply below_drew1) | exact HB.out)))); have n1_ := Aside0.mk (below_step (by repeat (first | (with_reducible first | exact HB.out | apply below_alloc | apply pw_below_drewN | apply below_drew1) | exact HB.out)) hb); clear HB; have HO105 := n0_; have HB := n1_; clear n0_ n1_; (try clear hb); (try clear hb2); (try clear hk); (try clear hi); (try clear ho0); obtain ⟨Ao12, co12, eo12⟩ := Kd.R_slice HO105.out; subst eo12; have p106 : 0 ≤ ((ji7) : Int) := of_decide_eq_true (by first | (with_reducible assumption) | assumption); have q106 : (ji7) < (t102.length : Int) := of_decide_eq_true (by first | (with_reducible assumption) | assumption); obtain ⟨ad106, e106, hx106_0, hx106_1⟩ := at_T124 (Kd.R_reads' HO105.out).2.2 (ji7) p106 q106; cases e106; replace p106 := eq_true p106; replace q106 := eq_true q106))
          go_ret2
          exact ⟨by first | rfl | (simp [errW_none, errW_some] <;> rfl) | (simp only [← hji7]; first | rfl | (simp [errW_none, errW_some] <;> rfl)) | (simp [*, errW_none, errW_some] <;> rfl), by repeat (first | (with_reducible first | exact HB.out | apply below_alloc | apply pw_below_drewN | apply below_drew1) | exact HB.out)⟩
        · rw [if_neg c9] at H
          exact absurd H (by simp)
      · rw [if_neg c8] at H
        exact absurd H (by simp)
    · rw [if_neg c5] at H
      have c5b0 : (t101 == 0) = false := beq_eq_false_iff_ne.mpr c5
      have c5b1 : (t101 != 0) = true := bne_iff_ne.mpr c5
      simp only [Option.some.injEq, Prod.mk.injEq] at H
      obtain ⟨rfl, rfl⟩ := H
      go_enter Try.func59, Try.ntmps59
      go_wp2_with (first | (go_at_call 58; (with_reducible refine (rdata_Check.calls k a0 a1 t101 _ A4.out).mono ?_); rintro e w13 ⟨rfl, hb⟩; have n0_ := Aside0.mk (below_step (by repeat (first | (with_reducible first | exact HB.out | apply below_alloc | apply pw_below_drewN | apply below_drew1) | exact HB.out)) hb); clear HB; have HB := n0_; clear n0_; (try clear hb); (try clear hb2); (try clear hk); (try clear hi)))
      go_ret2
      exact ⟨by first | rfl | (simp [errW_none, errW_some] <;> rfl) | (simp [*, errW_none, errW_some] <;> rfl), by repeat (first | (with_reducible first | exact HB.out | apply below_alloc | apply pw_below_drewN | apply below_drew1) | exact HB.out)⟩
  · rw [if_neg c3] at H
    have c3b0 : (a0 == 2) = false := beq_eq_false_iff_ne.mpr c3
    have c3b1 : (a0 != 2) = true := bne_iff_ne.mpr c3
    by_cases c14 : a0 = 5
    · rw [if_pos c14] at H
      have c14b0 : (a0 == 5) = true := beq_iff_eq.mpr c14
      have c14b1 : (a0 != 5) = false := bne_eq_false_iff_eq.mpr c14
      clear c14
      replace H := Option.bind_eq_some_iff.mp H
      obtain ⟨t107, A150, H⟩ := H
      replace H : (if t107 = 0 then ((rdata_split.f a0 a1).bind fun bt108 => (if 0 ≤ (wrap64 ((bt108.1.length : Int) - 1)) then (if (wrap64 ((bt108.1.length : Int) - 1)) < (bt108.1.length : Int) then (some ((rd_T124 bt108.1 (wrap64 ((bt108.1.length : Int) - 1))).f0, true)) else (none)) else (none))) else (some ((⟨#[]⟩ : ByteArray), false))) = some (r1, r2) := H
      have A15 := Aside0.mk A150
      clear A150
      by_cases c16 : t107 = 0
      · rw [if_pos c16] at H
        have c16b0 : (t107 == 0) = true := beq_iff_eq.mpr c16
        have c16b1 : (t107 != 0) = false := bne_eq_false_iff_eq.mpr c16
        clear c16
        replace H := Option.bind_eq_some_iff.mp H
        obtain ⟨⟨t108, t109⟩, A170, H⟩ := H
        replace H : (if 0 ≤ (wrap64 ((t108.length : Int) - 1)) then (if (wrap64 ((t108.length : Int) - 1)) < (t108.length : Int) then (some ((rd_T124 t108 (wrap64 ((t108.length : Int) - 1))).f0, true)) else (none)) else (none)) = some (r1, r2) := H
        have A17 := Aside0.mk A170
        clear A170
        obtain ⟨ji18, hji18⟩ : ∃ j_ : Int, (wrap64 ((t108.length : Int) - 1)) = j_ := ⟨_, rfl⟩
        replace H : (if 0 ≤ (ji18) then (if (ji18) < (t108.length : Int) then (some ((rd_T124 t108 (ji18)).f0, true)) else (none)) else (none)) = some (r1, r2) := by first | (rw [hji18] at H; exact H) | (simp only [hji18] at H ⊢; exact H)
        (try rw [hji18] at A15)
        (try rw [hji18] at A17)
        have hji18w : (IntKind.i64.wrap ((t108.length : Int) - 1)) = ji18 := (i64_w _).trans hji18
        by_cases c19 : 0 ≤ (ji18)
        · rw [if_pos c19] at H
          have c19b0 : decide (0 ≤ (ji18)) = true := decide_eq_true c19
          clear c19
          by_cases c20 : (ji18) < (t108.length : Int)
          · rw [if_pos c20] at H
            have c20b0 : decide ((ji18) < (t108.length : Int)) = true := decide_eq_true c20
            clear c20
            simp only [Option.some.injEq, Prod.mk.injEq] at H
            obtain ⟨rfl, rfl⟩ := H
            go_enter Try.func59, Try.ntmps59
            go_wp2_with (first | (go_at_call 58; (with_reducible refine (rdata_Check.calls k a0 a1 t107 _ A15.out).mono ?_); rintro e w21 ⟨rfl, hb⟩; have n0_ := Aside0.mk (below_step (by repeat (first | (with_reducible first | exact HB.out | apply below_alloc | apply pw_below_drewN | apply below_drew1) | exact HB.out)) hb); clear HB; have HB := n0_; clear n0_; (try clear hb); (try clear hb2); (try clear hk); (try clear hi)) | ((with_reducible refine gate_callee (f := 97) rfl ?_); refine goesL_ (some 31) rfl rfl Try.func97 (by kernel_rfl) rfl #[.int .i64 a0, .string a1] rfl (by (try simp only [List.map_toArray, List.map_cons, List.map_nil]); first | done | rfl | (simp only [List.length_drop, List.length_take]; rfl)) ?_; (with_reducible refine (rdata_split.calls a0 a1 t108 t109 _ A17.out).mono ?_); rintro e w22 ⟨v110, rfl, ho0, hb⟩; refine ⟨_, rfl, ?_⟩; have n0_ := Aside0.mk (Kd.R_lower ho0 (below_size (by repeat (first | (with_reducible first | exact HB.out | apply below_alloc | apply pw_below_drewN | apply below_drew1) | exact HB.out)))); have n1_ := Aside0.mk (below_step (by repeat (first | (with_reducible first | exact HB.out | apply below_alloc | apply pw_below_drewN | apply below_drew1) | exact HB.out)) hb); clear HB; have HO111 := n0_; have HB := n1_; clear n0_ n1_; (try clear hb); (try clear hb2); (try clear hk); (try clear hi); (try clear ho0); obtain ⟨Ao23, co23, eo23⟩ := Kd.R_slice HO111.out; subst eo23; have p112 : 0 ≤ ((ji18) : Int) := of_decide_eq_true (by first | (with_reducible assumption) | assumption); have q112 : (ji18) < (t108.length : Int) := of_decide_eq_true (by first | (with_reducible assumption) | assumption); obtain ⟨ad112, e112, hx112_0, hx112_1⟩ := at_T124 (Kd.R_reads' HO111.out).2.2 (ji18) p112 q112; cases e112; replace p112 := eq_true p112; replace q112 := eq_true q112))
            go_ret2
            exact ⟨by first | rfl | (simp [errW_none, errW_some] <;> rfl) | (simp only [← hji18]; first | rfl | (simp [errW_none, errW_some] <;> rfl)) | (simp [*, errW_none, errW_some] <;> rfl), by repeat (first | (with_reducible first | exact HB.out | apply below_alloc | apply pw_below_drewN | apply below_drew1) | exact HB.out)⟩
          · rw [if_neg c20] at H
            exact absurd H (by simp)
        · rw [if_neg c19] at H
          exact absurd H (by simp)
      · rw [if_neg c16] at H
        have c16b0 : (t107 == 0) = false := beq_eq_false_iff_ne.mpr c16
        have c16b1 : (t107 != 0) = true := bne_iff_ne.mpr c16
        simp only [Option.some.injEq, Prod.mk.injEq] at H
        obtain ⟨rfl, rfl⟩ := H
        go_enter Try.func59, Try.ntmps59
        go_wp2_with (first | (go_at_call 58; (with_reducible refine (rdata_Check.calls k a0 a1 t107 _ A15.out).mono ?_); rintro e w24 ⟨rfl, hb⟩; have n0_ := Aside0.mk (below_step (by repeat (first | (with_reducible first | exact HB.out | apply below_alloc | apply pw_below_drewN | apply below_drew1) | exact HB.out)) hb); clear HB; have HB := n0_; clear n0_; (try clear hb); (try clear hb2); (try clear hk); (try clear hi)))
        go_ret2
        exact ⟨by first | rfl | (simp [errW_none, errW_some] <;> rfl) | (simp [*, errW_none, errW_some] <;> rfl), by repeat (first | (with_reducible first | exact HB.out | apply below_alloc | apply pw_below_drewN | apply below_drew1) | exact HB.out)⟩
    · rw [if_neg c14] at H
      have c14b0 : (a0 == 5) = false := beq_eq_false_iff_ne.mpr c14
      have c14b1 : (a0 != 5) = true := bne_iff_ne.mpr c14
      by_cases c25 : a0 = 12
      · rw [if_pos c25] at H
        have c25b0 : (a0 == 12) = true := beq_iff_eq.mpr c25
        have c25b1 : (a0 != 12) = false := bne_eq_false_iff_eq.mpr c25
        clear c25
        replace H := Option.bind_eq_some_iff.mp H
        obtain ⟨t113, A260, H⟩ := H
        replace H : (if t113 = 0 then ((rdata_split.f a0 a1).bind fun bt114 => (if 0 ≤ (wrap64 ((bt114.1.length : Int) - 1)) then (if (wrap64 ((bt114.1.length : Int) - 1)) < (bt114.1.length : Int) then (some ((rd_T124 bt114.1 (wrap64 ((bt114.1.length : Int) - 1))).f0, true)) else (none)) else (none))) else (some ((⟨#[]⟩ : ByteArray), false))) = some (r1, r2) := H
        have A26 := Aside0.mk A260
        clear A260
        by_cases c27 : t113 = 0
        · rw [if_pos c27] at H
          have c27b0 : (t113 == 0) = true := beq_iff_eq.mpr c27
          have c27b1 : (t113 != 0) = false := bne_eq_false_iff_eq.mpr c27
          clear c27
          replace H := Option.bind_eq_some_iff.mp H
          obtain ⟨⟨t114, t115⟩, A280, H⟩ := H
          replace H : (if 0 ≤ (wrap64 ((t114.length : Int) - 1)) then (if (wrap64 ((t114.length : Int) - 1)) < (t114.length : Int) then (some ((rd_T124 t114 (wrap64 ((t114.length : Int) - 1))).f0, true)) else (none)) else (none)) = some (r1, r2) := H
          have A28 := Aside0.mk A280
          clear A280
          obtain ⟨ji29, hji29⟩ : ∃ j_ : Int, (wrap64 ((t114.length : Int) - 1)) = j_ := ⟨_, rfl⟩
          replace H : (if 0 ≤ (ji29) then (if (ji29) < (t114.length : Int) then (some ((rd_T124 t114 (ji29)).f0, true)) else (none)) else (none)) = some (r1, r2) := by first | (rw [hji29] at H; exact H) | (simp only [hji29] at H ⊢; exact H)
          (try rw [hji29] at A26)
          (try rw [hji29] at A28)
          have hji29w : (IntKind.i64.wrap ((t114.length : Int) - 1)) = ji29 := (i64_w _).trans hji29
          by_cases c30 : 0 ≤ (ji29)
          · rw [if_pos c30] at H
            have c30b0 : decide (0 ≤ (ji29)) = true := decide_eq_true c30
            clear c30
            by_cases c31 : (ji29) < (t114.length : Int)
            · rw [if_pos c31] at H
              have c31b0 : decide ((ji29) < (t114.length : Int)) = true := decide_eq_true c31
              clear c31
              simp only [Option.some.injEq, Prod.mk.injEq] at H
              obtain ⟨rfl, rfl⟩ := H
              go_enter Try.func59, Try.ntmps59
              go_wp2_with (first | (go_at_call 58; (with_reducible refine (rdata_Check.calls k a0 a1 t113 _ A26.out).mono ?_); rintro e w32 ⟨rfl, hb⟩; have n0_ := Aside0.mk (below_step (by repeat (first | (with_reducible first | exact HB.out | apply below_alloc | apply pw_below_drewN | apply below_drew1) | exact HB.out)) hb); clear HB; have HB := n0_; clear n0_; (try clear hb); (try clear hb2); (try clear hk); (try clear hi)) | ((with_reducible refine gate_callee (f := 97) rfl ?_); refine goesL_ (some 31) rfl rfl Try.func97 (by kernel_rfl) rfl #[.int .i64 a0, .string a1] rfl (by (try simp only [List.map_toArray, List.map_cons, List.map_nil]); first | done | rfl | (simp only [List.length_drop, List.length_take]; rfl)) ?_; (with_reducible refine (rdata_split.calls a0 a1 t114 t115 _ A28.out).mono ?_); rintro e w33 ⟨v116, rfl, ho0, hb⟩; refine ⟨_, rfl, ?_⟩; have n0_ := Aside0.mk (Kd.R_lower ho0 (below_size (by repeat (first | (with_reducible first | exact HB.out | apply below_alloc | apply pw_below_drewN | apply below_drew1) | exact HB.out)))); have n1_ := Aside0.mk (below_step (by repeat (first | (with_reducible first | exact HB.out | apply below_alloc | apply pw_below_drewN | apply below_drew1) | exact HB.out)) hb); clear HB; have HO117 := n0_; have HB := n1_; clear n0_ n1_; (try clear hb); (try clear hb2); (try clear hk); (try clear hi); (try clear ho0); obtain ⟨Ao34, co34, eo34⟩ := Kd.R_slice HO117.out; subst eo34; have p118 : 0 ≤ ((ji29) : Int) := of_decide_eq_true (by first | (with_reducible assumption) | assumption); have q118 : (ji29) < (t114.length : Int) := of_decide_eq_true (by first | (with_reducible assumption) | assumption); obtain ⟨ad118, e118, hx118_0, hx118_1⟩ := at_T124 (Kd.R_reads' HO117.out).2.2 (ji29) p118 q118; cases e118; replace p118 := eq_true p118; replace q118 := eq_true q118))
              go_ret2
              exact ⟨by first | rfl | (simp [errW_none, errW_some] <;> rfl) | (simp only [← hji29]; first | rfl | (simp [errW_none, errW_some] <;> rfl)) | (simp [*, errW_none, errW_some] <;> rfl), by repeat (first | (with_reducible first | exact HB.out | apply below_alloc | apply pw_below_drewN | apply below_drew1) | exact HB.out)⟩
            · rw [if_neg c31] at H
              exact absurd H (by simp)
          · rw [if_neg c30] at H
            exact absurd H (by simp)
        · rw [if_neg c27] at H
          have c27b0 : (t113 == 0) = false := beq_eq_false_iff_ne.mpr c27
          have c27b1 : (t113 != 0) = true := bne_iff_ne.mpr c27
          simp only [Option.some.injEq, Prod.mk.injEq] at H
          obtain ⟨rfl, rfl⟩ := H
          go_enter Try.func59, Try.ntmps59
          go_wp2_with (first | (go_at_call 58; (with_reducible refine (rdata_Check.calls k a0 a1 t113 _ A26.out).mono ?_); rintro e w35 ⟨rfl, hb⟩; have n0_ := Aside0.mk (below_step (by repeat (first | (with_reducible first | exact HB.out | apply below_alloc | apply pw_below_drewN | apply below_drew1) | exact HB.out)) hb); clear HB; have HB := n0_; clear n0_; (try clear hb); (try clear hb2); (try clear hk); (try clear hi)))
          go_ret2
          exact ⟨by first | rfl | (simp [errW_none, errW_some] <;> rfl) | (simp [*, errW_none, errW_some] <;> rfl), by repeat (first | (with_reducible first | exact HB.out | apply below_alloc | apply pw_below_drewN | apply below_drew1) | exact HB.out)⟩
      · rw [if_neg c25] at H
        have c25b0 : (a0 == 12) = false := beq_eq_false_iff_ne.mpr c25
        have c25b1 : (a0 != 12) = true := bne_iff_ne.mpr c25
        by_cases c36 : a0 = 15
        · rw [if_pos c36] at H
          have c36b0 : (a0 == 15) = true := beq_iff_eq.mpr c36
          have c36b1 : (a0 != 15) = false := bne_eq_false_iff_eq.mpr c36
          clear c36
          replace H := Option.bind_eq_some_iff.mp H
          obtain ⟨t119, A370, H⟩ := H
          replace H : (if t119 = 0 then ((rdata_split.f a0 a1).bind fun bt120 => (if 0 ≤ (wrap64 ((bt120.1.length : Int) - 1)) then (if (wrap64 ((bt120.1.length : Int) - 1)) < (bt120.1.length : Int) then (some ((rd_T124 bt120.1 (wrap64 ((bt120.1.length : Int) - 1))).f0, true)) else (none)) else (none))) else (some ((⟨#[]⟩ : ByteArray), false))) = some (r1, r2) := H
          have A37 := Aside0.mk A370
          clear A370
          by_cases c38 : t119 = 0
          · rw [if_pos c38] at H
            have c38b0 : (t119 == 0) = true := beq_iff_eq.mpr c38
            have c38b1 : (t119 != 0) = false := bne_eq_false_iff_eq.mpr c38
            clear c38
            replace H := Option.bind_eq_some_iff.mp H
            obtain ⟨⟨t120, t121⟩, A390, H⟩ := H
            replace H : (if 0 ≤ (wrap64 ((t120.length : Int) - 1)) then (if (wrap64 ((t120.length : Int) - 1)) < (t120.length : Int) then (some ((rd_T124 t120 (wrap64 ((t120.length : Int) - 1))).f0, true)) else (none)) else (none)) = some (r1, r2) := H
            have A39 := Aside0.mk A390
            clear A390
            obtain ⟨ji40, hji40⟩ : ∃ j_ : Int, (wrap64 ((t120.length : Int) - 1)) = j_ := ⟨_, rfl⟩
            replace H : (if 0 ≤ (ji40) then (if (ji40) < (t120.length : Int) then (some ((rd_T124 t120 (ji40)).f0, true)) else (none)) else (none)) = some (r1, r2) := by first | (rw [hji40] at H; exact H) | (simp only [hji40] at H ⊢; exact H)
            (try rw [hji40] at A37)
            (try rw [hji40] at A39)
            have hji40w : (IntKind.i64.wrap ((t120.length : Int) - 1)) = ji40 := (i64_w _).trans hji40
            by_cases c41 : 0 ≤ (ji40)
            · rw [if_pos c41] at H
              have c41b0 : decide (0 ≤ (ji40)) = true := decide_eq_true c41
              clear c41
              by_cases c42 : (ji40) < (t120.length : Int)
              · rw [if_pos c42] at H
                have c42b0 : decide ((ji40) < (t120.length : Int)) = true := decide_eq_true c42
                clear c42
                simp only [Option.some.injEq, Prod.mk.injEq] at H
                obtain ⟨rfl, rfl⟩ := H
                go_enter Try.func59, Try.ntmps59
                go_wp2_with (first | (go_at_call 58; (with_reducible refine (rdata_Check.calls k a0 a1 t119 _ A37.out).mono ?_); rintro e w43 ⟨rfl, hb⟩; have n0_ := Aside0.mk (below_step (by repeat (first | (with_reducible first | exact HB.out | apply below_alloc | apply pw_below_drewN | apply below_drew1) | exact HB.out)) hb); clear HB; have HB := n0_; clear n0_; (try clear hb); (try clear hb2); (try clear hk); (try clear hi)) | ((with_reducible refine gate_callee (f := 97) rfl ?_); refine goesL_ (some 31) rfl rfl Try.func97 (by kernel_rfl) rfl #[.int .i64 a0, .string a1] rfl (by (try simp only [List.map_toArray, List.map_cons, List.map_nil]); first | done | rfl | (simp only [List.length_drop, List.length_take]; rfl)) ?_; (with_reducible refine (rdata_split.calls a0 a1 t120 t121 _ A39.out).mono ?_); rintro e w44 ⟨v122, rfl, ho0, hb⟩; refine ⟨_, rfl, ?_⟩; have n0_ := Aside0.mk (Kd.R_lower ho0 (below_size (by repeat (first | (with_reducible first | exact HB.out | apply below_alloc | apply pw_below_drewN | apply below_drew1) | exact HB.out)))); have n1_ := Aside0.mk (below_step (by repeat (first | (with_reducible first | exact HB.out | apply below_alloc | apply pw_below_drewN | apply below_drew1) | exact HB.out)) hb); clear HB; have HO123 := n0_; have HB := n1_; clear n0_ n1_; (try clear hb); (try clear hb2); (try clear hk); (try clear hi); (try clear ho0); obtain ⟨Ao45, co45, eo45⟩ := Kd.R_slice HO123.out; subst eo45; have p124 : 0 ≤ ((ji40) : Int) := of_decide_eq_true (by first | (with_reducible assumption) | assumption); have q124 : (ji40) < (t120.length : Int) := of_decide_eq_true (by first | (with_reducible assumption) | assumption); obtain ⟨ad124, e124, hx124_0, hx124_1⟩ := at_T124 (Kd.R_reads' HO123.out).2.2 (ji40) p124 q124; cases e124; replace p124 := eq_true p124; replace q124 := eq_true q124))
                go_ret2
                exact ⟨by first | rfl | (simp [errW_none, errW_some] <;> rfl) | (simp only [← hji40]; first | rfl | (simp [errW_none, errW_some] <;> rfl)) | (simp [*, errW_none, errW_some] <;> rfl), by repeat (first | (with_reducible first | exact HB.out | apply below_alloc | apply pw_below_drewN | apply below_drew1) | exact HB.out)⟩
              · rw [if_neg c42] at H
                exact absurd H (by simp)
            · rw [if_neg c41] at H
              exact absurd H (by simp)
          · rw [if_neg c38] at H
            have c38b0 : (t119 == 0) = false := beq_eq_false_iff_ne.mpr c38
            have c38b1 : (t119 != 0) = true := bne_iff_ne.mpr c38
            simp only [Option.some.injEq, Prod.mk.injEq] at H
            obtain ⟨rfl, rfl⟩ := H
            go_enter Try.func59, Try.ntmps59
            go_wp2_with (first | (go_at_call 58; (with_reducible refine (rdata_Check.calls k a0 a1 t119 _ A37.out).mono ?_); rintro e w46 ⟨rfl, hb⟩; have n0_ := Aside0.mk (below_step (by repeat (first | (with_reducible first | exact HB.out | apply below_alloc | apply pw_below_drewN | apply below_drew1) | exact HB.out)) hb); clear HB; have HB := n0_; clear n0_; (try clear hb); (try clear hb2); (try clear hk); (try clear hi)))
            go_ret2
            exact ⟨by first | rfl | (simp [errW_none, errW_some] <;> rfl) | (simp [*, errW_none, errW_some] <;> rfl), by repeat (first | (with_reducible first | exact HB.out | apply below_alloc | apply pw_below_drewN | apply below_drew1) | exact HB.out)⟩
        · rw [if_neg c36] at H
          have c36b0 : (a0 == 15) = false := beq_eq_false_iff_ne.mpr c36
          have c36b1 : (a0 != 15) = true := bne_iff_ne.mpr c36
          simp only [Option.some.injEq, Prod.mk.injEq] at H
          obtain ⟨rfl, rfl⟩ := H
          go_enter Try.func59, Try.ntmps59
          go_wp2
          go_ret2
          exact ⟨by first | rfl | (simp [errW_none, errW_some] <;> rfl) | (simp [*, errW_none, errW_some] <;> rfl), by repeat (first | (with_reducible first | exact HB.out | apply below_alloc | apply pw_below_drewN | apply below_drew1) | exact HB.out)⟩

end Go.Proofs.Ytjjbhpbmfpodeaa.X
end
section
namespace Go.Proofs.Ytjjbhpbmfpodeaa.PB
open Go.RowKit Go.Proofs.Ytjjbhpbmfpodeaa.X Go.Proofs.YtjjbhpbmfpodeaaW.PrintWords Go.Proofs.YtjjbhpbmfpodeaaW.PrintLast
set_option linter.unusedVariables false
set_option linter.unusedSimpArgs false

theorem awake6_1 : ostiarylaw06_awake.f 1 = some true := by kernel_rfl
theorem awake6 {k : Nat} (hk : 1 ≤ k) : ostiarylaw06_awake.f k = some true := leO_le ostiarylaw06_awake.mono hk _ awake6_1

theorem check_k (k : Nat) (t : Int) (s : ByteArray) : rdata_Check.f (k + 1) t s = rdata_Check.f 1 t s := by
  unfold rdata_Check.f
  simp only [rdata_Check.j0]
theorem check_zero {t : Int} {s : ByteArray} (h : rdata_Check.f 1 t s = some 0) : 0 ≤ t ∧ t ≤ 65535 ∧ s.size ≤ 65535 ∧ (splitR t s).2 = true ∧ rdata_split.f t s = some (splitR t s) := by
  unfold rdata_Check.f at h
  by_cases h1 : t < 0
  · rw [if_pos h1, rdata_Check.j0, if_pos rfl] at h; simp at h
  rw [if_neg h1] at h
  by_cases h2 : t > 65535
  · rw [decide_eq_true h2, rdata_Check.j0, if_pos rfl] at h; simp at h
  rw [decide_eq_false h2, rdata_Check.j0, if_neg (by decide)] at h
  by_cases h3 : (s.size : Int) > 65535
  · rw [if_pos h3] at h; simp at h
  rw [if_neg h3] at h
  have hf : rdata_split.f t s = some (splitR t s) := by
    unfold rdata_split.f
    rw [if_pos ⟨WalkArith.wf_i64 (by omega), by omega⟩]
  rw [hf] at h
  simp only [Option.bind_some] at h
  by_cases h4 : (splitR t s).2 = true
  · exact ⟨by omega, by omega, by omega, h4, hf⟩
  · rw [if_neg h4] at h; simp at h
theorem firstL_check {s : ByteArray} : ∀ (k : Nat) (i : Int) {m : Int}, 0 ≤ i → firstL k s i = some m → name_Check.f (s.extract 0 m.toNat) = some 0
  | 0, i, m, _, h => by cases h
  | k + 1, i, m, h0, h => by
    rw [firstL] at h
    have hb := bt_range s i
    by_cases h1 : i < (s.size : Int) ∧ i < 255
    · rw [if_pos h1] at h
      by_cases h2 : bt s i = 0
      · rw [if_pos h2] at h
        by_cases h3 : name_Check.f (s.extract 0 (i + 1).toNat) = some 0
        · rw [if_pos h3] at h; injection h with h; subst h; exact h3
        · rw [if_neg h3] at h; cases h
      · rw [if_neg h2] at h; exact firstL_check k _ (by omega) h
    · rw [if_neg h1] at h; cases h
theorem firstN_check {s : ByteArray} {m : Int} (h : firstN s = some m) : name_Check.f (s.extract 0 m.toNat) = some 0 := firstL_check 256 0 (by omega) h

theorem one_name {s : ByteArray} (h : (spAns (splitGo [⟨0, true, false⟩] s [])).2 = true) : ∃ n, (spAns (splitGo [⟨0, true, false⟩] s [])).1 = [⟨n, true⟩] ∧ name_Check.f n = some 0 := by
  simp only [splitGo, Bool.false_eq_true, if_false, if_true] at h ⊢
  cases hf : firstN s with
  | none => rw [hf] at h; cases h
  | some m => exact ⟨_, rfl, firstN_check hf⟩
theorem mx_name {s : ByteArray} (h : (spAns (splitGo [⟨2, false, false⟩, ⟨0, true, false⟩] s [])).2 = true) : ∃ x n, (spAns (splitGo [⟨2, false, false⟩, ⟨0, true, false⟩] s [])).1 = [x, ⟨n, true⟩] ∧ name_Check.f n = some 0 := by
  simp only [splitGo, Bool.false_eq_true, if_false, if_true] at h ⊢
  by_cases h2 : (s.size : Int) < 2
  · simp [h2, spAns] at h
  · simp only [h2, if_false] at h ⊢
    cases hf : firstN (s.extract (2 : Int).toNat s.size) with
    | none => rw [hf] at h; cases h
    | some m => exact ⟨_, _, rfl, firstN_check hf⟩
end Go.Proofs.Ytjjbhpbmfpodeaa.PB
end
section
namespace Go.Proofs.Ytjjbhpbmfpodeaa.X
open Go.RowKit Go.Proofs.Ytjjbhpbmfpodeaa.PB Go.Proofs.YtjjbhpbmfpodeaaW.PrintWords Go.Proofs.YtjjbhpbmfpodeaaW.PrintLast Go.Proofs.YtjjbhpbmfpodeaaW.PrintMore
set_option linter.unusedVariables false
set_option linter.unusedSimpArgs false
attribute [local go_sem] Oper.semAt_some

/-- What Bytes tells. -/
def bytesR (l : List Int) (a n : Int) : List Int × Int × Int × Int :=
  if n < 0 then ([], 0, 2, 0) else if a < 0 ∨ (l.length : Int) < a then ([], 0, 5, 0) else if (l.length : Int) < a + n then ([], 0, 4, (l.length : Int)) else ((l.drop a.toNat).take n.toNat, a + n, 0, 0)

end Go.Proofs.Ytjjbhpbmfpodeaa.X
end
section
namespace Go.Proofs.Ytjjbhpbmfpodeaa.X
open Go.RowKit Go.Proofs.YtjjbhpbmfpodeaaW.PrintWords Go.Proofs.YtjjbhpbmfpodeaaW.PrintLast Go.Proofs.YtjjbhpbmfpodeaaW.PrintMore
attribute [local go_sem] max2_int min2_int max_two min_two max_three min_three max_four min_four   -- for this text's walks alone
set_option linter.unusedVariables false
set_option linter.unusedSimpArgs false

/-! ### ostiaryref03_Bytes: function 43 -/
def ostiaryref03_Bytes.j0 : Nat → List Int → Int → Int → Bool → Option (List Int × Int × Int × Int)
  | 0, _, _, _, _ => none
  | k + 1, x0, x1, x2, x19 => if x19 = true then (some (([] : List Int), 0, 5, 0)) else (if (wrap64 ((x0.length : Int) - x1)) < x2 then (some (([] : List Int), 0, 4, (x0.length : Int))) else ((some (([] : List Int) : List Int)).bind fun y102 => (if 0 ≤ x1 then (if x1 ≤ (wrap64 (x1 + x2)) then (if (wrap64 (x1 + x2)) ≤ (x0.length : Int) then (if y102.length + ((x0.take ((wrap64 (x1 + x2)) : Int).toNat).drop (x1 : Int).toNat).length < 140737488355328 then (some ((y102 ++ ((x0.take ((wrap64 (x1 + x2)) : Int).toNat).drop (x1 : Int).toNat)), wrap64 (x1 + x2), 0, 0)) else (none)) else (none)) else (none)) else (none))))
def ostiaryref03_Bytes.f (k : Nat) (l0 : List Int) (a1 : Int) (a2 : Int) : Option (List Int × Int × Int × Int) := if a2 < 0 then (some (([] : List Int), 0, 2, 0)) else (if a1 < 0 then (ostiaryref03_Bytes.j0 k l0 a1 a2 true) else (ostiaryref03_Bytes.j0 k l0 a1 a2 (decide (a1 > (l0.length : Int)))))
set_option maxHeartbeats 8000000 in
set_option maxRecDepth 100000 in
theorem ostiaryref03_Bytes.calls (k : Nat) (A0 : Option Addr) (c0 : Nat) (l0 : List Int) (a1 : Int) (a2 : Int) (r1 : List Int) (r2 : Int) (r3 : Int) (r4 : Int) (w : World) (hr0 : Kd.C (Kd.int .u8) w A0 l0.length l0) (hc0 : l0.length ≤ c0) (h : ostiaryref03_Bytes.f k l0 a1 a2 = some (r1, r2, r3, r4)) :
    Calls Try.prog 43 #[.slice A0 l0.length c0, .int .i64 a1, .int .i64 a2] w fun e w' => ∃ v0_ : Value, e = .returned (.tuple #[v0_, .int .i64 r2, .agg #[.int .i64 r3, .int .i64 r4]]) ∧ Kd.R (Kd.int .u8) 5 w' w.heap.size (fun _ => True) v0_ r1 ∧ Below w.heap.size w w' := by
  have hu31 := Try.underlying31
  have HR0 := Aside0.mk hr0
  have HC0 := Aside0.mk hc0
  clear hr0 hc0
  have HB := Aside0.mk (Below.refl w.heap.size w)
  have H : (if a2 < 0 then (some (([] : List Int), 0, 2, 0)) else (if a1 < 0 then (ostiaryref03_Bytes.j0 k l0 a1 a2 true) else (ostiaryref03_Bytes.j0 k l0 a1 a2 (decide (a1 > (l0.length : Int)))))) = some (r1, r2, r3, r4) := h
  clear h
  by_cases c4 : a2 < 0
  · rw [if_pos c4] at H
    have c4b0 : decide (a2 < 0) = true := decide_eq_true c4
    clear c4
    simp only [Option.some.injEq, Prod.mk.injEq] at H
    obtain ⟨rfl, rfl, rfl, rfl⟩ := H
    go_enter Try.func43, Try.ntmps43
    go_wp2_with (first | ((with_reducible refine gate_dst (N := 8) rfl ?_); (try (refine gate_guard (by rfl) ?_; dsimp only)); refine box_event ?hg (N := 8) ?hd (cs := #[.int .i64 0, .int .i64 0]) (t := 31) ?hr ?_; (case hd => rfl); (case hg => rfl); (case hr => first | (go_simp; done) | (go_simp; rfl)); intro gb101 hg w5 hbox hb; have n0_ := Aside0.mk (below_step (by repeat (first | (with_reducible first | exact HB.out | apply below_alloc | apply pw_below_drewN | apply below_drew1) | exact HB.out)) hb); have n1_ := Aside0.mk (hbox); have n2_ := Aside0.mk ((by rw [hg]; exact (below_size (by repeat (first | (with_reducible first | exact HB.out | apply below_alloc | apply pw_below_drewN | apply below_drew1) | exact HB.out))) : w.heap.size ≤ gb101)); have n3_ := Aside0.mk ((by rw [hg]; exact (below_size (by repeat (first | (with_reducible first | exact HB.out | apply below_alloc | apply pw_below_drewN | apply below_drew1) | exact HB.out))) : w.heap.size ≤ gb101)); clear HB; have HB := n0_; have BK101 := n1_; have GW101 := n2_; have GE101 := n3_; clear n0_ n1_ n2_ n3_; clear hb hbox hg; have hcz6_0 : w5.cell? ⟨gb101, 0, none⟩ = some (.int .i64 0) := (blk_cell BK101.out 0).trans rfl; have hcz6_1 : w5.cell? ⟨gb101, 1, none⟩ = some (.int .i64 0) := (blk_cell BK101.out 1).trans rfl; have hfz6_0 := blk_frozen BK101.out 0; have hfz6_1 := blk_frozen BK101.out 1))
    refine bodyPost_ret (results_list (rs := [.tmp 6, .tmp 7, .cell 8 31]) rfl (by simp) (.tmp (.tmp (.cell gb101 31 #[.int .i64 2, .int .i64 0] (0, 0) _ rfl (by (with_reducible repeat (first | refine blk_drewN ?_ _ | refine blk_drew ?_ | refine blk_alloc ?_ _)); refine blk_put (cs := #[.int .i64 2, .int .i64 0]) ?_ 1 _ rfl; (with_reducible repeat (first | refine blk_drewN ?_ _ | refine blk_drew ?_ | refine blk_alloc ?_ _)); refine blk_put (cs := #[.int .i64 0, .int .i64 0]) ?_ 0 _ rfl; (with_reducible repeat (first | refine blk_drewN ?_ _ | refine blk_drew ?_ | refine blk_alloc ?_ _)); exact BK101.out) Try.underlying31 rfl (by kernel_rfl) .nil)))) rfl ?_
    exact ⟨_, by first | rfl | (simp [errW_none, errW_some] <;> rfl) | (simp [*, errW_none, errW_some] <;> rfl), by first | exact Kd.R_nil _ _ _ _ _ | exact Kd.N_nil _ _ _ _ _ | exact Kd.V_nil _ _ _ _ _ | exact Kd.Q_nil _ _ _ _ _ | exact Kd.S_nil _ _ _ _ _, by repeat (first | (with_reducible first | exact HB.out | apply below_alloc | apply pw_below_drewN | apply below_drew1 | refine below_set ?_ GE101.out) | exact HB.out)⟩
  · rw [if_neg c4] at H
    have c4b0 : decide (a2 < 0) = false := decide_eq_false c4
    clear c4
    have HC7 := Aside0.mk H
    clear H
    go_enter Try.func43, Try.ntmps43
    go_upto_region 3 with (first | ((with_reducible refine gate_dst (N := 8) rfl ?_); (try (refine gate_guard (by rfl) ?_; dsimp only)); refine box_event ?hg (N := 8) ?hd (cs := #[.int .i64 0, .int .i64 0]) (t := 31) ?hr ?_; (case hd => rfl); (case hg => rfl); (case hr => first | (go_simp; done) | (go_simp; rfl)); intro gb101 hg w8 hbox hb; have n0_ := Aside0.mk (below_step (by repeat (first | (with_reducible first | exact HB.out | apply below_alloc | apply pw_below_drewN | apply below_drew1) | exact HB.out)) hb); have n1_ := Aside0.mk (hbox); have n2_ := Aside0.mk ((by rw [hg]; exact (below_size (by repeat (first | (with_reducible first | exact HB.out | apply below_alloc | apply pw_below_drewN | apply below_drew1) | exact HB.out))) : w.heap.size ≤ gb101)); have n3_ := Aside0.mk ((by rw [hg]; exact (below_size (by repeat (first | (with_reducible first | exact HB.out | apply below_alloc | apply pw_below_drewN | apply below_drew1) | exact HB.out))) : w.heap.size ≤ gb101)); clear HB; have HB := n0_; have BK101 := n1_; have GW101 := n2_; have GE101 := n3_; clear n0_ n1_ n2_ n3_; clear hb hbox hg))
    (try simp only [Act.put, List.setIfInBounds_toArray, List.set_cons_zero, List.set_cons_succ])
    go_cut [19] (fun v19 wc => ∃ (kq : Nat) (x19_6 : Bool), v19 = .bool x19_6 ∧ Aside0 (ostiaryref03_Bytes.j0 kq l0 a1 a2 x19_6 = some (r1, r2, r3, r4)) ∧ Aside0 (kq ≤ k) ∧ Aside0 (wc.heap[gb101]? = some (.cells #[.int .i64 0, .int .i64 0] 31 (0, 0))) ∧ Aside0 (Below w.heap.size w wc))
    case first =>
      have H := HC7.out
      clear HC7
      by_cases c9 : a1 < 0
      · rw [if_pos c9] at H
        have c9b0 : decide (a1 < 0) = true := decide_eq_true c9
        clear c9
        (first | rw [c9b0] | (simp only [i64_w, i32_w]; rw [c9b0]) | skip)
        have H' := Aside0.mk H
        clear H
        go_wp2
        go_meet
        case rel => exact ⟨_, (true), (by first | rfl | (simp; done) | (simp [*]; done)), H', ⟨by first | omega | exact Nat.le_refl _⟩, ⟨by (with_reducible repeat (first | refine blk_drewN ?_ _ | refine blk_drew ?_ | refine blk_alloc ?_ _)); exact BK101.out⟩, ⟨by repeat (first | (with_reducible first | exact HB.out | apply below_alloc | apply pw_below_drewN | apply below_drew1 | refine below_set ?_ GE101.out) | exact HB.out)⟩⟩
      · rw [if_neg c9] at H
        have c9b0 : decide (a1 < 0) = false := decide_eq_false c9
        clear c9
        (first | rw [c9b0] | (simp only [i64_w, i32_w]; rw [c9b0]) | skip)
        have H' := Aside0.mk H
        clear H
        go_wp2
        go_meet
        case rel => exact ⟨_, (decide (a1 > (l0.length : Int))), (by first | rfl | (simp; done) | (simp [*]; done)), H', ⟨by first | omega | exact Nat.le_refl _⟩, ⟨by (with_reducible repeat (first | refine blk_drewN ?_ _ | refine blk_drew ?_ | refine blk_alloc ?_ _)); exact BK101.out⟩, ⟨by repeat (first | (with_reducible first | exact HB.out | apply below_alloc | apply pw_below_drewN | apply below_drew1 | refine below_set ?_ GE101.out) | exact HB.out)⟩⟩
    case rest =>
      clear HC7
      try clear p2
      try clear c4
      try clear c4b0
      try clear c9
      try clear c9b0
      try clear hcz6_0
      try clear hcz6_1
      try clear hfz6_0
      try clear hfz6_1
      obtain ⟨kq, x19_6, rfl, HA, HJ6, BK101, HB⟩ := hcut
      cases kq with
      | zero => exact absurd HA.out (by simp [ostiaryref03_Bytes.j0])
      | succ kj6 =>
        have H := HA.out
        clear HA
        simp only [ostiaryref03_Bytes.j0] at H
        by_cases c10 : x19_6 = true
        · subst c10
          have H1 : (some (([] : List Int), 0, 5, 0)) = some (r1, r2, r3, r4) := by rw [if_pos rfl] at H; exact H
          clear H
          have H := H1
          clear H1
          simp only [Option.some.injEq, Prod.mk.injEq] at H
          obtain ⟨rfl, rfl, rfl, rfl⟩ := H
          have hcz11_0 : wc.cell? ⟨gb101, 0, none⟩ = some (.int .i64 0) := (blk_cell BK101.out 0).trans rfl
          have hcz11_1 : wc.cell? ⟨gb101, 1, none⟩ = some (.int .i64 0) := (blk_cell BK101.out 1).trans rfl
          have hfz11_0 := blk_frozen BK101.out 0
          have hfz11_1 := blk_frozen BK101.out 1
          go_wp2
          refine bodyPost_ret (results_list (rs := [.tmp 6, .tmp 7, .cell 8 31]) rfl (by simp) (.tmp (.tmp (.cell gb101 31 #[.int .i64 5, .int .i64 0] (0, 0) _ rfl (by (with_reducible repeat (first | refine blk_drewN ?_ _ | refine blk_drew ?_ | refine blk_alloc ?_ _)); refine blk_put (cs := #[.int .i64 5, .int .i64 0]) ?_ 1 _ rfl; (with_reducible repeat (first | refine blk_drewN ?_ _ | refine blk_drew ?_ | refine blk_alloc ?_ _)); refine blk_put (cs := #[.int .i64 0, .int .i64 0]) ?_ 0 _ rfl; (with_reducible repeat (first | refine blk_drewN ?_ _ | refine blk_drew ?_ | refine blk_alloc ?_ _)); exact BK101.out) Try.underlying31 rfl (by kernel_rfl) .nil)))) rfl ?_
          exact ⟨_, by first | rfl | (simp [errW_none, errW_some] <;> rfl) | (simp [*, errW_none, errW_some] <;> rfl), by first | exact Kd.R_nil _ _ _ _ _ | exact Kd.N_nil _ _ _ _ _ | exact Kd.V_nil _ _ _ _ _ | exact Kd.Q_nil _ _ _ _ _ | exact Kd.S_nil _ _ _ _ _, by repeat (first | (with_reducible first | exact HB.out | apply below_alloc | apply pw_below_drewN | apply below_drew1 | refine below_set ?_ GE101.out) | exact HB.out)⟩
        · replace c10 := Bool.eq_false_iff.mpr c10
          subst c10
          have H1 : (if (wrap64 ((l0.length : Int) - a1)) < a2 then (some (([] : List Int), 0, 4, (l0.length : Int))) else ((some (([] : List Int) : List Int)).bind fun y102 => (if 0 ≤ a1 then (if a1 ≤ (wrap64 (a1 + a2)) then (if (wrap64 (a1 + a2)) ≤ (l0.length : Int) then (if y102.length + ((l0.take ((wrap64 (a1 + a2)) : Int).toNat).drop (a1 : Int).toNat).length < 140737488355328 then (some ((y102 ++ ((l0.take ((wrap64 (a1 + a2)) : Int).toNat).drop (a1 : Int).toNat)), wrap64 (a1 + a2), 0, 0)) else (none)) else (none)) else (none)) else (none)))) = some (r1, r2, r3, r4) := by rw [if_neg (show ¬ (false = true) by decide)] at H; exact H
          clear H
          have H := H1
          clear H1
          by_cases c12 : (wrap64 ((l0.length : Int) - a1)) < a2
          · rw [if_pos c12] at H
            have c12b0 : decide ((wrap64 ((l0.length : Int) - a1)) < a2) = true := decide_eq_true c12
            clear c12
            simp only [Option.some.injEq, Prod.mk.injEq] at H
            obtain ⟨rfl, rfl, rfl, rfl⟩ := H
            have hcz13_0 : wc.cell? ⟨gb101, 0, none⟩ = some (.int .i64 0) := (blk_cell BK101.out 0).trans rfl
            have hcz13_1 : wc.cell? ⟨gb101, 1, none⟩ = some (.int .i64 0) := (blk_cell BK101.out 1).trans rfl
            have hfz13_0 := blk_frozen BK101.out 0
            have hfz13_1 := blk_frozen BK101.out 1
            go_wp2
            refine bodyPost_ret (results_list (rs := [.tmp 6, .tmp 7, .cell 8 31]) rfl (by simp) (.tmp (.tmp (.cell gb101 31 #[.int .i64 4, .int .i64 (l0.length : Int)] (0, 0) _ rfl (by (with_reducible repeat (first | refine blk_drewN ?_ _ | refine blk_drew ?_ | refine blk_alloc ?_ _)); refine blk_put (cs := #[.int .i64 4, .int .i64 0]) ?_ 1 _ rfl; (with_reducible repeat (first | refine blk_drewN ?_ _ | refine blk_drew ?_ | refine blk_alloc ?_ _)); refine blk_put (cs := #[.int .i64 0, .int .i64 0]) ?_ 0 _ rfl; (with_reducible repeat (first | refine blk_drewN ?_ _ | refine blk_drew ?_ | refine blk_alloc ?_ _)); exact BK101.out) Try.underlying31 rfl (by kernel_rfl) .nil)))) rfl ?_
            exact ⟨_, by first | rfl | (simp [errW_none, errW_some] <;> rfl) | (simp [*, errW_none, errW_some] <;> rfl), by first | exact Kd.R_nil _ _ _ _ _ | exact Kd.N_nil _ _ _ _ _ | exact Kd.V_nil _ _ _ _ _ | exact Kd.Q_nil _ _ _ _ _ | exact Kd.S_nil _ _ _ _ _, by repeat (first | (with_reducible first | exact HB.out | apply below_alloc | apply pw_below_drewN | apply below_drew1 | refine below_set ?_ GE101.out) | exact HB.out)⟩
          · rw [if_neg c12] at H
            have c12b0 : decide ((wrap64 ((l0.length : Int) - a1)) < a2) = false := decide_eq_false c12
            clear c12
            obtain ⟨y102, hy102⟩ : ∃ y_ : List Int, y_ = (([] : List Int)) := ⟨_, rfl⟩
            replace H : (if 0 ≤ a1 then (if a1 ≤ (wrap64 (a1 + a2)) then (if (wrap64 (a1 + a2)) ≤ (l0.length : Int) then (if y102.length + ((l0.take ((wrap64 (a1 + a2)) : Int).toNat).drop (a1 : Int).toNat).length < 140737488355328 then (some ((y102 ++ ((l0.take ((wrap64 (a1 + a2)) : Int).toNat).drop (a1 : Int).toNat)), wrap64 (a1 + a2), 0, 0)) else (none)) else (none)) else (none)) else (none)) = some (r1, r2, r3, r4) := by first | (rw [hy102]; with_reducible exact H) | (have H2_ := (Option.bind_some _ _).symm.trans H; rw [hy102]; with_reducible exact H2_) | (have H2_ := (Option.bind_some _ _).symm.trans H; with_reducible exact H2_) | with_reducible exact H | (rw [hy102]; exact H) | exact H
            have Ny102 := Aside0.mk hy102
            clear hy102
            by_cases c14 : 0 ≤ a1
            · rw [if_pos c14] at H
              have c14b0 := eq_true c14
              have c14b1 : decide (0 ≤ a1) = true := decide_eq_true c14
              clear c14
              by_cases c15 : a1 ≤ (wrap64 (a1 + a2))
              · rw [if_pos c15] at H
                have c15b0 := eq_true c15
                have c15b1 : decide (a1 ≤ (wrap64 (a1 + a2))) = true := decide_eq_true c15
                by_cases c16 : (wrap64 (a1 + a2)) ≤ (l0.length : Int)
                · rw [if_pos c16] at H
                  have c16b0 := eq_true c16
                  have c16b1 : decide ((wrap64 (a1 + a2)) ≤ (l0.length : Int)) = true := decide_eq_true c16
                  by_cases c17 : y102.length + ((l0.take ((wrap64 (a1 + a2)) : Int).toNat).drop (a1 : Int).toNat).length < 140737488355328
                  · rw [if_pos c17] at H
                    have LMc17 := Aside0.mk c17
                    clear c17
                    obtain ⟨y106, hy106⟩ : ∃ y_ : List Int, y_ = (y102 ++ ((l0.take ((wrap64 (a1 + a2)) : Int).toNat).drop (a1 : Int).toNat)) := ⟨_, rfl⟩
                    replace H : (some (y106, wrap64 (a1 + a2), 0, 0)) = some (r1, r2, r3, r4) := by first | (rw [hy106]; with_reducible exact H) | (have H2_ := (Option.bind_some _ _).symm.trans H; rw [hy106]; with_reducible exact H2_) | (have H2_ := (Option.bind_some _ _).symm.trans H; with_reducible exact H2_) | with_reducible exact H | (rw [hy106]; exact H) | exact H
                    have Ny106 := Aside0.mk hy106
                    clear hy106
                    simp only [Option.some.injEq, Prod.mk.injEq] at H
                    obtain ⟨rfl, rfl, rfl, rfl⟩ := H
                    go_wp2_with (first | ((with_reducible refine gate_dst (N := 30) rfl ?_); (try (refine gate_guard (by rfl) ?_; dsimp only)); refine Kd.R_lit (Kd.int .u8) _ 5 ?hg (N := 30) ?hd (xs := ([] : List Int)) (inner := []) (ok := fun _ => True) (okp := fun _ => True) ?hr ?hp (fun _ hk => hk) trivial (Below.refl _ _) (Nat.le_refl _) (by simp) ?_; (case hd => rfl); (case hg => rfl); (case hr => first | (go_simp; done) | (go_simp; rfl)); (case hp => exact (Reps.none _ _)); intro v103 w18 ho19 hb hg_ hnew_; clear hg_ hnew_; (first | rw [← Ny102.out] at ho19 | (simp only [Int.reduceToNat] at ho19; rw [← Ny102.out] at ho19)); have n0_ := Aside0.mk (Kd.R_lower ho19 (below_size (by repeat (first | (with_reducible first | exact HB.out | apply below_alloc | apply pw_below_drewN | apply below_drew1 | refine below_set ?_ GE101.out) | exact HB.out)))); have n1_ := Aside0.mk (blk_below (g := gb101) (o := .cells #[.int .i64 0, .int .i64 0] 31 (0, 0)) (by (with_reducible repeat (first | refine blk_drewN ?_ _ | refine blk_drew ?_ | refine blk_alloc ?_ _)); exact BK101.out) hb); have n2_ := Aside0.mk (below_step (by repeat (first | (with_reducible first | exact HB.out | apply below_alloc | apply pw_below_drewN | apply below_drew1 | refine below_set ?_ GE101.out) | exact HB.out)) hb); clear BK101; clear HB; have HO104 := n0_; have BK101 := n1_; have HB := n2_; clear n0_ n1_ n2_; clear hb ho19; obtain ⟨i020, hi020, _, hsz20, _⟩ := info_parts info5; obtain ⟨A20, hcut20, hA20, hC20⟩ := print_mid_of (P := Try.prog) (Value.int .u8) 0 22 5 .i64 .i64 Try.underlying22 hi020 hsz20 A0 c0 l0 a1 (wrap64 (a1 + a2)) (of_decide_eq_true (by first | (with_reducible assumption) | assumption)) (by first | omega | exact of_decide_eq_true (by first | (with_reducible assumption) | assumption)) (of_decide_eq_true (by first | (with_reducible assumption) | assumption)) HC0.out; have HR105 := Aside0.mk (Kd.C_of_reads (h1 := fun _ => rfl) (hA20 _ (Kd.reads_of_C HR0.out))); have HC105 := Aside0.mk hC20; clear hA20 hC20 hi020 hsz20) | ((with_reducible refine gate_builtin (b := .append) (xs := #[.tmp 30, .tmp 36]) rfl ?_); (try (refine gate_guard (by rfl) ?_; dsimp only)); at_builtin; refine Kd.R_append_rows (Kd.int .u8) (w0 := w) w.heap.size rfl (.tmp 30) (.tmp 36) 22 5 (.int .u8 0) 1 rfl Try.underlying22 info5 rfl (by decide) (by omega) v103 y102 ((l0.take ((wrap64 (a1 + a2)) : Int).toNat).drop (a1 : Int).toNat) _ _ _ (fun _ => True) (fun _ => False) rfl rfl ?aO ?aR (fun _ _ h => h) (fun _ h => h.elim) ?aF ?aB ?aS ?aL ?_; (case aR => first | (rw [← show ((l0.take ((wrap64 (a1 + a2)) : Int).toNat).drop (a1 : Int).toNat).length = ((wrap64 (a1 + a2)).toNat - a1.toNat) from (by rw [List.length_drop, List.length_take]; have h_ : ((wrap64 (a1 + a2)) : Int) ≤ (l0.length : Int) := of_decide_eq_true (by first | (with_reducible assumption) | assumption); omega)]; repeat (first | exact (Kd.C_below HR105.out HB.out) | (with_reducible refine Kd.C_alloc ?_ _) | (with_reducible refine Kd.C_drewN ?_ _) | (with_reducible refine Kd.C_drew ?_))) | (repeat (first | exact (Kd.C_below HR105.out HB.out) | (with_reducible refine Kd.C_alloc ?_ _) | (with_reducible refine Kd.C_drewN ?_ _) | (with_reducible refine Kd.C_drew ?_)))); (case aB => exact (by repeat (first | (with_reducible first | exact HB.out | apply below_alloc | apply pw_below_drewN | apply below_drew1 | refine below_set ?_ GE101.out) | exact HB.out))); (case aF => exact (fun _ _ => trivial)); (case aO => exact (by (with_reducible repeat (first | apply Kd.R_alloc | apply Kd.R_drewN | apply Kd.R_drew)); exact HO104.out)); (case aS => exact (below_size (by repeat (first | (with_reducible first | exact HB.out | apply below_alloc | apply pw_below_drewN | apply below_drew1 | refine below_set ?_ GE101.out) | exact HB.out)))); (case aL => have := LMc17.out; have hlx_ := (show ((l0.take ((wrap64 (a1 + a2)) : Int).toNat).drop (a1 : Int).toNat).length = ((wrap64 (a1 + a2)).toNat - a1.toNat) from (by rw [List.length_drop, List.length_take]; have h_ : ((wrap64 (a1 + a2)) : Int) ≤ (l0.length : Int) := of_decide_eq_true (by first | (with_reducible assumption) | assumption); omega)); omega); intro v107 w21 ho hb hg hat; rw [← Ny106.out] at ho; have n0_ := Aside0.mk (blk_grown (g := gb101) (o := .cells #[.int .i64 0, .int .i64 0] 31 (0, 0)) (by (with_reducible repeat (first | refine blk_drewN ?_ _ | refine blk_drew ?_ | refine blk_alloc ?_ _)); exact BK101.out) hg (Kd.R_ne HO104.out BK101.out (by decide))); have n1_ := Aside0.mk (hb); have n2_ := Aside0.mk (ho); clear BK101; clear HB; clear HO104; have BK101 := n0_; have HB := n1_; have HO108 := n2_; clear n0_ n1_ n2_; clear ho hb hg hat; have hcz22_0 : w21.cell? ⟨gb101, 0, none⟩ = some (.int .i64 0) := (blk_cell BK101.out 0).trans rfl; have hcz22_1 : w21.cell? ⟨gb101, 1, none⟩ = some (.int .i64 0) := (blk_cell BK101.out 1).trans rfl; have hfz22_0 := blk_frozen BK101.out 0; have hfz22_1 := blk_frozen BK101.out 1))
                    refine bodyPost_ret (results_list (rs := [.tmp 6, .tmp 7, .cell 8 31]) rfl (by simp) (.tmp (.tmp (.cell gb101 31 #[.int .i64 0, .int .i64 0] (0, 0) _ rfl (by (with_reducible repeat (first | refine blk_drewN ?_ _ | refine blk_drew ?_ | refine blk_alloc ?_ _)); refine blk_put (cs := #[.int .i64 0, .int .i64 0]) ?_ 1 _ rfl; (with_reducible repeat (first | refine blk_drewN ?_ _ | refine blk_drew ?_ | refine blk_alloc ?_ _)); refine blk_put (cs := #[.int .i64 0, .int .i64 0]) ?_ 0 _ rfl; (with_reducible repeat (first | refine blk_drewN ?_ _ | refine blk_drew ?_ | refine blk_alloc ?_ _)); exact BK101.out) Try.underlying31 rfl (by kernel_rfl) .nil)))) rfl ?_
                    exact ⟨_, by first | rfl | (simp [errW_none, errW_some] <;> rfl) | (simp [*, errW_none, errW_some] <;> rfl), by (with_reducible repeat (first | apply Kd.R_alloc | apply Kd.R_drewN | apply Kd.R_drew)); exact Kd.R_mono (Kd.R_far (p := ⟨gb101, 1, none⟩) (Kd.R_far (p := ⟨gb101, 0, none⟩) (Kd.R_types HO108.out BK101.out (by decide)) (fun _ hk => hk.2) (.int .i64 0)) (fun _ hk => hk.2) (.int .i64 0)) (fun _ hk => trivial), by repeat (first | (with_reducible first | exact HB.out | apply below_alloc | apply pw_below_drewN | apply below_drew1 | refine below_set ?_ GE101.out) | exact HB.out)⟩
                  · rw [if_neg c17] at H
                    exact absurd H (by simp)
                · rw [if_neg c16] at H
                  exact absurd H (by simp)
              · rw [if_neg c15] at H
                exact absurd H (by simp)
            · rw [if_neg c14] at H
              exact absurd H (by simp)

end Go.Proofs.Ytjjbhpbmfpodeaa.X
end
section
namespace Go.Proofs.Ytjjbhpbmfpodeaa.X
open Go.RowKit Go.Proofs.YtjjbhpbmfpodeaaW.PrintWords Go.Proofs.YtjjbhpbmfpodeaaW.PrintLast Go.Proofs.YtjjbhpbmfpodeaaW.PrintMore
attribute [local go_sem] max2_int min2_int max_two min_two max_three min_three max_four min_four   -- for this text's walks alone
set_option linter.unusedVariables false
set_option linter.unusedSimpArgs false

/-! ### ostiaryref03_get: function 92 -/
def ostiaryref03_get.l0 : Nat → Int → List Int → Int → Int → Int → Int → Int → Option (Int × Int × Int × Int)
  | 0, _, _, _, _, _, _, _ => none
  | k + 1, x2, x9, x10, x12, x13, x109000, x109001 => if x13 < x2 then (if 0 ≤ x13 then (if x13 < (x9.length : Int) then (ostiaryref03_get.l0 k x2 x9 x10 (wrap64 ((wrap64 (256 * x12)) + (wrap64 (rd x9 x13)))) (wrap64 (x13 + 1)) x109000 x109001) else (none)) else (none)) else (some (x12, x10, x109000, x109001))
def ostiaryref03_get.f (k : Nat) (l0 : List Int) (a1 : Int) (a2 : Int) : Option (Int × Int × Int × Int) := (ostiaryref03_Bytes.f k l0 a1 a2).bind fun bt102 => (if bt102.2.2.1 = 0 then (ostiaryref03_get.l0 k a2 bt102.1 bt102.2.1 0 0 bt102.2.2.1 bt102.2.2.2) else (some (0, 0, bt102.2.2.1, bt102.2.2.2)))
set_option maxHeartbeats 8000000 in
set_option maxRecDepth 100000 in
theorem ostiaryref03_get.calls (k : Nat) (A0 : Option Addr) (c0 : Nat) (l0 : List Int) (a1 : Int) (a2 : Int) (r1 : Int) (r2 : Int) (r3 : Int) (r4 : Int) (w : World) (hr0 : Kd.C (Kd.int .u8) w A0 l0.length l0) (hc0 : l0.length ≤ c0) (h : ostiaryref03_get.f k l0 a1 a2 = some (r1, r2, r3, r4)) :
    Calls Try.prog 92 #[.slice A0 l0.length c0, .int .i64 a1, .int .i64 a2] w fun e w' => e = .returned (.tuple #[.int .i64 r1, .int .i64 r2, .agg #[.int .i64 r3, .int .i64 r4]]) ∧ Below w.heap.size w w' := by
  have hu31 := Try.underlying31
  have HR0 := Aside0.mk hr0
  have HC0 := Aside0.mk hc0
  clear hr0 hc0
  have HB := Aside0.mk (Below.refl w.heap.size w)
  have H : ((ostiaryref03_Bytes.f k l0 a1 a2).bind fun bt102 => (if bt102.2.2.1 = 0 then (ostiaryref03_get.l0 k a2 bt102.1 bt102.2.1 0 0 bt102.2.2.1 bt102.2.2.2) else (some (0, 0, bt102.2.2.1, bt102.2.2.2)))) = some (r1, r2, r3, r4) := h
  clear h
  replace H := Option.bind_eq_some_iff.mp H
  obtain ⟨⟨t102, t105, t106, t107⟩, A40, H⟩ := H
  replace H : (if t106 = 0 then (ostiaryref03_get.l0 k a2 t102 t105 0 0 t106 t107) else (some (0, 0, t106, t107))) = some (r1, r2, r3, r4) := H
  have A4 := Aside0.mk A40
  clear A40
  by_cases c5 : t106 = 0
  · rw [if_pos c5] at H
    have c5b0 : (t106 == 0) = true := beq_iff_eq.mpr c5
    have c5b1 : (t106 != 0) = false := bne_eq_false_iff_eq.mpr c5
    clear c5
    have H' := Aside0.mk H
    clear H
    go_enter Try.func92, Try.ntmps92
    go_wp2_with (first | ((with_reducible refine gate_dst (N := 8) rfl ?_); refine box_event ?hg (N := 8) ?hd (cs := #[.int .i64 0, .int .i64 0]) (t := 31) ?hr ?_; (case hd => rfl); (case hg => rfl); (case hr => first | (go_simp; done) | (go_simp; rfl)); intro gb101 hg w6 hbox hb; have n0_ := Aside0.mk (below_step (by repeat (first | (with_reducible first | exact HB.out | apply below_alloc | apply pw_below_drewN | apply below_drew1) | exact HB.out)) hb); have n1_ := Aside0.mk (hbox); have n2_ := Aside0.mk ((by rw [hg]; exact (below_size (by repeat (first | (with_reducible first | exact HB.out | apply below_alloc | apply pw_below_drewN | apply below_drew1) | exact HB.out))) : w.heap.size ≤ gb101)); have n3_ := Aside0.mk ((by rw [hg]; exact (below_size (by repeat (first | (with_reducible first | exact HB.out | apply below_alloc | apply pw_below_drewN | apply below_drew1) | exact HB.out))) : w.heap.size ≤ gb101)); clear HB; have HB := n0_; have BK101 := n1_; have GW101 := n2_; have GE101 := n3_; clear n0_ n1_ n2_ n3_; clear hb hbox hg) | ((with_reducible refine gate_callee (f := 43) rfl ?_); refine goesL_ (some 18) rfl rfl Try.func43 (by kernel_rfl) rfl #[.slice A0 l0.length c0, .int .i64 a1, .int .i64 a2] rfl (by (try simp only [List.map_toArray, List.map_cons, List.map_nil]); first | done | rfl | (simp only [List.length_drop, List.length_take]; rfl)) ?_; (with_reducible refine (ostiaryref03_Bytes.calls k _ _ l0 a1 a2 t102 t105 t106 t107 _ ?side1 ?side2 A4.out).mono ?_); (case side1 => repeat (first | exact (Kd.C_below HR0.out HB.out) | (with_reducible refine Kd.C_alloc ?_ _) | (with_reducible refine Kd.C_drewN ?_ _) | (with_reducible refine Kd.C_drew ?_))); (case side2 => exact HC0.out); rintro e w7 ⟨v103, rfl, ho0, hb⟩; refine ⟨_, rfl, ?_⟩; have n0_ := Aside0.mk (Kd.R_lower ho0 (below_size (by repeat (first | (with_reducible first | exact HB.out | apply below_alloc | apply pw_below_drewN | apply below_drew1 | refine below_set ?_ GE101.out) | exact HB.out)))); have n1_ := Aside0.mk (blk_below (g := gb101) (o := .cells #[.int .i64 0, .int .i64 0] 31 (0, 0)) (by (with_reducible repeat (first | refine blk_drewN ?_ _ | refine blk_drew ?_ | refine blk_alloc ?_ _)); exact BK101.out) hb); have n2_ := Aside0.mk (below_step (by repeat (first | (with_reducible first | exact HB.out | apply below_alloc | apply pw_below_drewN | apply below_drew1 | refine below_set ?_ GE101.out) | exact HB.out)) hb); clear BK101; clear HB; have HO104 := n0_; have BK101 := n1_; have HB := n2_; clear n0_ n1_ n2_; (try clear hb); (try clear hb2); (try clear hk); (try clear hi); (try clear ho0)) | ((with_reducible refine gate_dst (N := 11) rfl ?_); refine box_event ?hg (N := 11) ?hd (cs := #[.int .i64 0, .int .i64 0]) (t := 31) ?hr ?_; (case hd => rfl); (case hg => rfl); (case hr => first | (go_simp; done) | (go_simp; rfl)); intro gb108 hg w8 hbox hb; have n0_ := Aside0.mk (Kd.R_below (by (with_reducible repeat (first | apply Kd.R_alloc | apply Kd.R_drewN | apply Kd.R_drew)); exact HO104.out) hb); have n1_ := Aside0.mk (blk_below (g := gb101) (o := .cells #[.int .i64 0, .int .i64 0] 31 (0, 0)) (by (with_reducible repeat (first | refine blk_drewN ?_ _ | refine blk_drew ?_ | refine blk_alloc ?_ _)); exact BK101.out) hb); have n2_ := Aside0.mk (below_step (by repeat (first | (with_reducible first | exact HB.out | apply below_alloc | apply pw_below_drewN | apply below_drew1 | refine below_set ?_ GE101.out) | exact HB.out)) hb); have n3_ := Aside0.mk (hbox); have n4_ := Aside0.mk ((by rw [hg]; exact (below_size (by repeat (first | (with_reducible first | exact HB.out | apply below_alloc | apply pw_below_drewN | apply below_drew1 | refine below_set ?_ GE101.out) | exact HB.out))) : w.heap.size ≤ gb108)); have n5_ := Aside0.mk ((by rw [hg]; exact (below_size (by repeat (first | (with_reducible first | exact HB.out | apply below_alloc | apply pw_below_drewN | apply below_drew1 | refine below_set ?_ GE101.out) | exact HB.out))) : w.heap.size ≤ gb108)); have n6_ := Aside0.mk ((by rw [hg]; exact Nat.ne_of_lt (blk_lt (g := gb101) (o := .cells #[.int .i64 0, .int .i64 0] 31 (0, 0)) (by (with_reducible repeat (first | refine blk_drewN ?_ _ | refine blk_drew ?_ | refine blk_alloc ?_ _)); exact BK101.out)) : gb101 ≠ gb108)); have n7_ := Aside0.mk ((by rw [hg]; exact Nat.ne_of_gt (blk_lt (g := gb101) (o := .cells #[.int .i64 0, .int .i64 0] 31 (0, 0)) (by (with_reducible repeat (first | refine blk_drewN ?_ _ | refine blk_drew ?_ | refine blk_alloc ?_ _)); exact BK101.out)) : gb108 ≠ gb101)); clear HO104; clear BK101; clear HB; have HO104 := n0_; have BK101 := n1_; have HB := n2_; have BK108 := n3_; have GW108 := n4_; have GE108 := n5_; have NB101_108 := n6_; have NB108_101 := n7_; clear n0_ n1_ n2_ n3_ n4_ n5_ n6_ n7_; clear hb hbox hg; have hnb9 := NB108_101.out; have hnc9 := NB101_108.out; have hcz10_0 : w8.cell? ⟨gb108, 0, none⟩ = some (.int .i64 0) := (blk_cell BK108.out 0).trans rfl; have hcz10_1 : w8.cell? ⟨gb108, 1, none⟩ = some (.int .i64 0) := (blk_cell BK108.out 1).trans rfl; have hfz10_0 := blk_frozen BK108.out 0; have hfz10_1 := blk_frozen BK108.out 1))
    go_loopg [12, 13] k (fun kq v12 v13 w' => ∃ (x12_1 : Int) (x13_1 : Int), v12 = .int .i64 x12_1 ∧ v13 = .int .i64 x13_1 ∧ Aside0 (ostiaryref03_get.l0 kq a2 t102 t105 x12_1 x13_1 t106 t107 = some (r1, r2, r3, r4)) ∧ Aside0 (kq ≤ k) ∧ Aside0 (Kd.R (Kd.int .u8) 5 w' w.heap.size (fun _ => True) v103 t102) ∧ Aside0 (w'.heap[gb101]? = some (.cells #[.int .i64 0, .int .i64 0] 31 (0, 0))) ∧ Aside0 (w'.heap[gb108]? = some (.cells #[.int .i64 t106, .int .i64 t107] 31 (0, 0))) ∧ Aside0 (Below w.heap.size w w'))
    case atStart => exact ⟨(0), (0), (by first | rfl | (simp; done) | (simp [*]; done)), (by first | rfl | (simp; done) | (simp [*]; done)), H', ⟨Nat.le_refl _⟩, ⟨by (with_reducible repeat (first | apply Kd.R_alloc | apply Kd.R_drewN | apply Kd.R_drew)); exact Kd.R_mono (Kd.R_far (p := ⟨gb108, 1, none⟩) (Kd.R_far (p := ⟨gb108, 0, none⟩) (Kd.R_types HO104.out BK108.out (by decide)) (fun _ hk => hk.2) (.int .i64 t106)) (fun _ hk => hk.2) (.int .i64 t107)) (fun _ hk => trivial)⟩, ⟨by (with_reducible repeat (first | refine blk_drewN ?_ _ | refine blk_drew ?_ | refine blk_alloc ?_ _)); refine blk_far ?_ NB101_108.out _; (with_reducible repeat (first | refine blk_drewN ?_ _ | refine blk_drew ?_ | refine blk_alloc ?_ _)); refine blk_far ?_ NB101_108.out _; (with_reducible repeat (first | refine blk_drewN ?_ _ | refine blk_drew ?_ | refine blk_alloc ?_ _)); exact BK101.out⟩, ⟨by (with_reducible repeat (first | refine blk_drewN ?_ _ | refine blk_drew ?_ | refine blk_alloc ?_ _)); refine blk_put (cs := #[.int .i64 t106, .int .i64 0]) ?_ 1 _ rfl; (with_reducible repeat (first | refine blk_drewN ?_ _ | refine blk_drew ?_ | refine blk_alloc ?_ _)); refine blk_put (cs := #[.int .i64 0, .int .i64 0]) ?_ 0 _ rfl; (with_reducible repeat (first | refine blk_drewN ?_ _ | refine blk_drew ?_ | refine blk_alloc ?_ _)); exact BK108.out⟩, ⟨by repeat (first | (with_reducible first | exact HB.out | apply below_alloc | apply pw_below_drewN | apply below_drew1 | refine below_set ?_ GE101.out | refine below_set ?_ GE108.out) | exact HB.out)⟩⟩
    case round =>
      clear H'
      try clear p2
      try clear c4
      try clear c5
      try clear c5b0
      try clear c5b1
      try clear c9
      try clear hcz10_0
      try clear hcz10_1
      try clear hfz10_0
      try clear hfz10_1
      obtain ⟨x12_1, x13_1, rfl, rfl, HA, HK1, HO_9, BK101, BK108, HB⟩ := hrel
      cases gk with
      | zero => exact absurd HA.out (by simp [ostiaryref03_get.l0])
      | succ k1 =>
        have H := HA.out
        clear HA
        simp only [ostiaryref03_get.l0] at H
        by_cases c11 : x13_1 < a2
        · rw [if_pos c11] at H
          have c11b0 : decide (x13_1 < a2) = true := decide_eq_true c11
          clear c11
          by_cases c12 : 0 ≤ x13_1
          · rw [if_pos c12] at H
            have c12b0 : decide (0 ≤ x13_1) = true := decide_eq_true c12
            clear c12
            by_cases c13 : x13_1 < (t102.length : Int)
            · rw [if_pos c13] at H
              have c13b0 : decide (x13_1 < (t102.length : Int)) = true := decide_eq_true c13
              clear c13
              have H' := Aside0.mk H
              clear H
              obtain ⟨Ao14, co14, eo14⟩ := Kd.R_slice HO_9.out
              subst eo14
              have p109 : 0 ≤ (x13_1 : Int) := of_decide_eq_true (by first | (with_reducible assumption) | assumption)
              have q109 : x13_1 < (t102.length : Int) := of_decide_eq_true (by first | (with_reducible assumption) | assumption)
              obtain ⟨ad109, e109, hx109_0⟩ := Kd.at_int (Kd.R_reads' HO_9.out).2.2 x13_1 p109 q109
              cases e109
              replace p109 := eq_true p109
              replace q109 := eq_true q109
              go_wp2
              go_roundg k1
              case measure => have := HK1.out; omega
              case rel => exact ⟨(wrap64 ((wrap64 (256 * x12_1)) + (wrap64 (rd t102 x13_1)))), (wrap64 (x13_1 + 1)), (by first | rfl | (simp; done) | (simp [*]; done)), (by first | rfl | (simp; done) | (simp [*]; done)), H', ⟨by have := HK1.out; omega⟩, ⟨by (with_reducible repeat (first | apply Kd.R_alloc | apply Kd.R_drewN | apply Kd.R_drew)); exact HO_9.out⟩, ⟨by (with_reducible repeat (first | refine blk_drewN ?_ _ | refine blk_drew ?_ | refine blk_alloc ?_ _)); exact BK101.out⟩, ⟨by (with_reducible repeat (first | refine blk_drewN ?_ _ | refine blk_drew ?_ | refine blk_alloc ?_ _)); exact BK108.out⟩, ⟨by repeat (first | (with_reducible first | exact HB.out | apply below_alloc | apply pw_below_drewN | apply below_drew1 | refine below_set ?_ GE101.out | refine below_set ?_ GE108.out) | exact HB.out)⟩⟩
            · rw [if_neg c13] at H
              exact absurd H (by simp)
          · rw [if_neg c12] at H
            exact absurd H (by simp)
        · rw [if_neg c11] at H
          have c11b0 : decide (x13_1 < a2) = false := decide_eq_false c11
          clear c11
          simp only [Option.some.injEq, Prod.mk.injEq] at H
          obtain ⟨rfl, rfl, rfl, rfl⟩ := H
          try go_wp2
          have n0_ := Aside0.mk (Kd.R_drew HO_9.out)
          have n1_ := Aside0.mk (blk_drew BK101.out)
          have n2_ := Aside0.mk (blk_drew BK108.out)
          have n3_ := Aside0.mk (below_drew1 HB.out)
          clear HO_9
          clear BK101
          clear BK108
          clear HB
          have HO_9 := n0_
          have BK101 := n1_
          have BK108 := n2_
          have HB := n3_
          clear n0_ n1_ n2_ n3_
          refine start_ (n := 6) (S := fun w' => w'.cell? ⟨gb108, 0, none⟩ = some (.int .i64 t106) ∧ w'.cell? ⟨gb108, 1, none⟩ = some (.int .i64 t107)) (ds := []) #[false, false, false, false, false, false] (by kernel_rfl) rfl rfl ⟨(blk_cell BK108.out 0).trans rfl, (blk_cell BK108.out 1).trans rfl⟩ (fun hHeld => ?_)
          generalize wr.drew = w15 at HO_9 BK101 BK108 HB hHeld ⊢
          refine pure_ (i := 0) (N := some 39) (v := ?_) (a' := ?_) #[true, false, false, false, false, false] rfl rfl (by kernel_rfl) (fun _ _ _ h => h) (Or.inl ⟨by rfl, ?_⟩) ?_ ?_
          rotate_left
          · intro w'
            go_simp
            with_reducible rfl
          rotate_left
          · simp only [Act.put, List.setIfInBounds_toArray, List.set_cons_zero, List.set_cons_succ, i64_w, i32_w]
            rfl
          refine pure_ (i := 1) (N := some 40) (v := ?_) (a' := ?_) #[true, true, false, false, false, false] rfl rfl (by kernel_rfl) (fun _ _ _ h => h) (Or.inl ⟨by rfl, ?_⟩) ?_ ?_
          rotate_left
          · intro w'
            go_simp
            with_reducible rfl
          rotate_left
          · simp only [Act.put, List.setIfInBounds_toArray, List.set_cons_zero, List.set_cons_succ, i64_w, i32_w]
            rfl
          refine pure_ (i := 3) (N := some 6) (v := ?_) (a' := ?_) #[true, true, false, true, false, false] rfl rfl (by kernel_rfl) (fun _ _ _ h => h) (Or.inl ⟨by rfl, ?_⟩) ?_ ?_
          rotate_left
          · intro w'
            go_simp
            with_reducible rfl
          rotate_left
          · simp only [Act.put, List.setIfInBounds_toArray, List.set_cons_zero, List.set_cons_succ, i64_w, i32_w]
            rfl
          refine pure_ (i := 4) (N := some 7) (v := ?_) (a' := ?_) #[true, true, false, true, true, false] rfl rfl (by kernel_rfl) (fun _ _ _ h => h) (Or.inl ⟨by rfl, ?_⟩) ?_ ?_
          rotate_left
          · intro w'
            go_simp
            with_reducible rfl
          rotate_left
          · simp only [Act.put, List.setIfInBounds_toArray, List.set_cons_zero, List.set_cons_succ, i64_w, i32_w]
            rfl
          refine take_ (i := 2) (N := some 41) (v := ?_) (a' := ?_) #[true, true, true, true, true, false] rfl rfl (by kernel_rfl) (fun _ _ _ h => h) (Or.inl ⟨by rfl, ?_⟩) hHeld ?_ ?_
          rotate_left
          · rintro w' ⟨s0, s1⟩
            go_simp
            with_reducible rfl
          rotate_left
          · simp only [Act.put, List.setIfInBounds_toArray, List.set_cons_zero, List.set_cons_succ, i64_w, i32_w]
            rfl
          refine one_ (i := 5) (N := none) #[true, true, true, true, true, true] rfl rfl (by kernel_rfl) (by decide) (fun K hK => ?_)
          have hs16 : w15.cell? ⟨gb101, 0, none⟩ = some (.int .i64 0) := (blk_cell BK101.out 0).trans rfl
          have hfs16 := blk_frozen BK101.out 0
          have hns16_1 := NB108_101.out
          have hms16_1 := NB101_108.out
          have hs17 : w15.cell? ⟨gb101, 1, none⟩ = some (.int .i64 0) := (blk_cell BK101.out 1).trans rfl
          have hfs17 := blk_frozen BK101.out 1
          have hns17_1 := NB108_101.out
          have hms17_1 := NB101_108.out
          refine skip_ (w1 := ?_) (by rfl) rfl ?_ ?_
          rotate_left
          · go_simp
            rfl
          refine hK.out _ _ ⟨((cell_far (p := ⟨gb101, _, none⟩) NB108_101.out _).trans (((cell_far (p := ⟨gb101, _, none⟩) NB108_101.out _).trans (hHeld.1)))), ((cell_far (p := ⟨gb101, _, none⟩) NB108_101.out _).trans (((cell_far (p := ⟨gb101, _, none⟩) NB108_101.out _).trans (hHeld.2))))⟩ (fun hHeld => ?_)
          clear hK K
          refine done_ (by kernel_rfl) ?_
          try go_wp2
          refine bodyPost_ret (results_list (rs := [.tmp 6, .tmp 7, .cell 8 31]) rfl (by simp) (.tmp (.tmp (.cell gb101 31 #[.int .i64 t106, .int .i64 t107] (0, 0) _ rfl (by (with_reducible repeat (first | refine blk_drewN ?_ _ | refine blk_drew ?_ | refine blk_alloc ?_ _)); refine blk_put (cs := #[.int .i64 t106, .int .i64 0]) ?_ 1 _ rfl; (with_reducible repeat (first | refine blk_drewN ?_ _ | refine blk_drew ?_ | refine blk_alloc ?_ _)); refine blk_put (cs := #[.int .i64 0, .int .i64 0]) ?_ 0 _ rfl; (with_reducible repeat (first | refine blk_drewN ?_ _ | refine blk_drew ?_ | refine blk_alloc ?_ _)); exact BK101.out) Try.underlying31 rfl (by kernel_rfl) .nil)))) rfl ?_
          exact ⟨by first | rfl | (simp [errW_none, errW_some] <;> rfl) | (simp [*, errW_none, errW_some] <;> rfl), by repeat (first | (with_reducible first | exact HB.out | apply below_alloc | apply pw_below_drewN | apply below_drew1 | refine below_set ?_ GE101.out | refine below_set ?_ GE108.out) | exact HB.out)⟩
  · rw [if_neg c5] at H
    have c5b0 : (t106 == 0) = false := beq_eq_false_iff_ne.mpr c5
    have c5b1 : (t106 != 0) = true := bne_iff_ne.mpr c5
    simp only [Option.some.injEq, Prod.mk.injEq] at H
    obtain ⟨rfl, rfl, rfl, rfl⟩ := H
    go_enter Try.func92, Try.ntmps92
    try go_wp2_with (first | ((with_reducible refine gate_dst (N := 8) rfl ?_); refine box_event ?hg (N := 8) ?hd (cs := #[.int .i64 0, .int .i64 0]) (t := 31) ?hr ?_; (case hd => rfl); (case hg => rfl); (case hr => first | (go_simp; done) | (go_simp; rfl)); intro gb101 hg w18 hbox hb; have n0_ := Aside0.mk (below_step (by repeat (first | (with_reducible first | exact HB.out | apply below_alloc | apply pw_below_drewN | apply below_drew1) | exact HB.out)) hb); have n1_ := Aside0.mk (hbox); have n2_ := Aside0.mk ((by rw [hg]; exact (below_size (by repeat (first | (with_reducible first | exact HB.out | apply below_alloc | apply pw_below_drewN | apply below_drew1) | exact HB.out))) : w.heap.size ≤ gb101)); have n3_ := Aside0.mk ((by rw [hg]; exact (below_size (by repeat (first | (with_reducible first | exact HB.out | apply below_alloc | apply pw_below_drewN | apply below_drew1) | exact HB.out))) : w.heap.size ≤ gb101)); clear HB; have HB := n0_; have BK101 := n1_; have GW101 := n2_; have GE101 := n3_; clear n0_ n1_ n2_ n3_; clear hb hbox hg) | ((with_reducible refine gate_callee (f := 43) rfl ?_); refine goesL_ (some 18) rfl rfl Try.func43 (by kernel_rfl) rfl #[.slice A0 l0.length c0, .int .i64 a1, .int .i64 a2] rfl (by (try simp only [List.map_toArray, List.map_cons, List.map_nil]); first | done | rfl | (simp only [List.length_drop, List.length_take]; rfl)) ?_; (with_reducible refine (ostiaryref03_Bytes.calls k _ _ l0 a1 a2 t102 t105 t106 t107 _ ?side1 ?side2 A4.out).mono ?_); (case side1 => repeat (first | exact (Kd.C_below HR0.out HB.out) | (with_reducible refine Kd.C_alloc ?_ _) | (with_reducible refine Kd.C_drewN ?_ _) | (with_reducible refine Kd.C_drew ?_))); (case side2 => exact HC0.out); rintro e w19 ⟨v103, rfl, ho0, hb⟩; refine ⟨_, rfl, ?_⟩; have n0_ := Aside0.mk (Kd.R_lower ho0 (below_size (by repeat (first | (with_reducible first | exact HB.out | apply below_alloc | apply pw_below_drewN | apply below_drew1 | refine below_set ?_ GE101.out) | exact HB.out)))); have n1_ := Aside0.mk (blk_below (g := gb101) (o := .cells #[.int .i64 0, .int .i64 0] 31 (0, 0)) (by (with_reducible repeat (first | refine blk_drewN ?_ _ | refine blk_drew ?_ | refine blk_alloc ?_ _)); exact BK101.out) hb); have n2_ := Aside0.mk (below_step (by repeat (first | (with_reducible first | exact HB.out | apply below_alloc | apply pw_below_drewN | apply below_drew1 | refine below_set ?_ GE101.out) | exact HB.out)) hb); clear BK101; clear HB; have HO104 := n0_; have BK101 := n1_; have HB := n2_; clear n0_ n1_ n2_; (try clear hb); (try clear hb2); (try clear hk); (try clear hi); (try clear ho0)) | ((with_reducible refine gate_dst (N := 11) rfl ?_); refine box_event ?hg (N := 11) ?hd (cs := #[.int .i64 0, .int .i64 0]) (t := 31) ?hr ?_; (case hd => rfl); (case hg => rfl); (case hr => first | (go_simp; done) | (go_simp; rfl)); intro gb108 hg w20 hbox hb; have n0_ := Aside0.mk (Kd.R_below (by (with_reducible repeat (first | apply Kd.R_alloc | apply Kd.R_drewN | apply Kd.R_drew)); exact HO104.out) hb); have n1_ := Aside0.mk (blk_below (g := gb101) (o := .cells #[.int .i64 0, .int .i64 0] 31 (0, 0)) (by (with_reducible repeat (first | refine blk_drewN ?_ _ | refine blk_drew ?_ | refine blk_alloc ?_ _)); exact BK101.out) hb); have n2_ := Aside0.mk (below_step (by repeat (first | (with_reducible first | exact HB.out | apply below_alloc | apply pw_below_drewN | apply below_drew1 | refine below_set ?_ GE101.out) | exact HB.out)) hb); have n3_ := Aside0.mk (hbox); have n4_ := Aside0.mk ((by rw [hg]; exact (below_size (by repeat (first | (with_reducible first | exact HB.out | apply below_alloc | apply pw_below_drewN | apply below_drew1 | refine below_set ?_ GE101.out) | exact HB.out))) : w.heap.size ≤ gb108)); have n5_ := Aside0.mk ((by rw [hg]; exact (below_size (by repeat (first | (with_reducible first | exact HB.out | apply below_alloc | apply pw_below_drewN | apply below_drew1 | refine below_set ?_ GE101.out) | exact HB.out))) : w.heap.size ≤ gb108)); have n6_ := Aside0.mk ((by rw [hg]; exact Nat.ne_of_lt (blk_lt (g := gb101) (o := .cells #[.int .i64 0, .int .i64 0] 31 (0, 0)) (by (with_reducible repeat (first | refine blk_drewN ?_ _ | refine blk_drew ?_ | refine blk_alloc ?_ _)); exact BK101.out)) : gb101 ≠ gb108)); have n7_ := Aside0.mk ((by rw [hg]; exact Nat.ne_of_gt (blk_lt (g := gb101) (o := .cells #[.int .i64 0, .int .i64 0] 31 (0, 0)) (by (with_reducible repeat (first | refine blk_drewN ?_ _ | refine blk_drew ?_ | refine blk_alloc ?_ _)); exact BK101.out)) : gb108 ≠ gb101)); clear HO104; clear BK101; clear HB; have HO104 := n0_; have BK101 := n1_; have HB := n2_; have BK108 := n3_; have GW108 := n4_; have GE108 := n5_; have NB101_108 := n6_; have NB108_101 := n7_; clear n0_ n1_ n2_ n3_ n4_ n5_ n6_ n7_; clear hb hbox hg; have hnb21 := NB108_101.out; have hnc21 := NB101_108.out; have hcz22_0 : w20.cell? ⟨gb108, 0, none⟩ = some (.int .i64 0) := (blk_cell BK108.out 0).trans rfl; have hcz22_1 : w20.cell? ⟨gb108, 1, none⟩ = some (.int .i64 0) := (blk_cell BK108.out 1).trans rfl; have hfz22_0 := blk_frozen BK108.out 0; have hfz22_1 := blk_frozen BK108.out 1))
    have n0_ : Aside0 (Kd.R (Kd.int .u8) 5 ((w20.setCell ⟨gb108, 0, none⟩ (.int .i64 t106)).setCell ⟨gb108, 1, none⟩ (.int .i64 t107)) w.heap.size (fun _ => True) v103 t102) := ⟨by (with_reducible repeat (first | apply Kd.R_alloc | apply Kd.R_drewN | apply Kd.R_drew)); exact Kd.R_mono (Kd.R_far (p := ⟨gb108, 1, none⟩) (Kd.R_far (p := ⟨gb108, 0, none⟩) (Kd.R_types HO104.out BK108.out (by decide)) (fun _ hk => hk.2) (.int .i64 t106)) (fun _ hk => hk.2) (.int .i64 t107)) (fun _ hk => trivial)⟩
    have n1_ : Aside0 (((w20.setCell ⟨gb108, 0, none⟩ (.int .i64 t106)).setCell ⟨gb108, 1, none⟩ (.int .i64 t107)).heap[gb101]? = some (.cells #[.int .i64 0, .int .i64 0] 31 (0, 0))) := ⟨by (with_reducible repeat (first | refine blk_drewN ?_ _ | refine blk_drew ?_ | refine blk_alloc ?_ _)); refine blk_far ?_ NB101_108.out _; (with_reducible repeat (first | refine blk_drewN ?_ _ | refine blk_drew ?_ | refine blk_alloc ?_ _)); refine blk_far ?_ NB101_108.out _; (with_reducible repeat (first | refine blk_drewN ?_ _ | refine blk_drew ?_ | refine blk_alloc ?_ _)); exact BK101.out⟩
    have n2_ : Aside0 (((w20.setCell ⟨gb108, 0, none⟩ (.int .i64 t106)).setCell ⟨gb108, 1, none⟩ (.int .i64 t107)).heap[gb108]? = some (.cells #[.int .i64 t106, .int .i64 t107] 31 (0, 0))) := ⟨by (with_reducible repeat (first | refine blk_drewN ?_ _ | refine blk_drew ?_ | refine blk_alloc ?_ _)); refine blk_put (cs := #[.int .i64 t106, .int .i64 0]) ?_ 1 _ rfl; (with_reducible repeat (first | refine blk_drewN ?_ _ | refine blk_drew ?_ | refine blk_alloc ?_ _)); refine blk_put (cs := #[.int .i64 0, .int .i64 0]) ?_ 0 _ rfl; (with_reducible repeat (first | refine blk_drewN ?_ _ | refine blk_drew ?_ | refine blk_alloc ?_ _)); exact BK108.out⟩
    have n3_ : Aside0 (Below w.heap.size w ((w20.setCell ⟨gb108, 0, none⟩ (.int .i64 t106)).setCell ⟨gb108, 1, none⟩ (.int .i64 t107))) := ⟨by repeat (first | (with_reducible first | exact HB.out | apply below_alloc | apply pw_below_drewN | apply below_drew1 | refine below_set ?_ GE101.out | refine below_set ?_ GE108.out) | exact HB.out)⟩
    (try clear HO104)
    (try clear BK101)
    (try clear BK108)
    (try clear HB)
    generalize ((w20.setCell ⟨gb108, 0, none⟩ (.int .i64 t106)).setCell ⟨gb108, 1, none⟩ (.int .i64 t107)) = w23 at n0_ n1_ n2_ n3_ ⊢
    have HO104 := n0_
    have BK101 := n1_
    have BK108 := n2_
    have HB := n3_
    clear n0_ n1_ n2_ n3_
    have n0_ := Aside0.mk (Kd.R_drew HO104.out)
    have n1_ := Aside0.mk (blk_drew BK101.out)
    have n2_ := Aside0.mk (blk_drew BK108.out)
    have n3_ := Aside0.mk (below_drew1 HB.out)
    clear HO104
    clear BK101
    clear BK108
    clear HB
    have HO104 := n0_
    have BK101 := n1_
    have BK108 := n2_
    have HB := n3_
    clear n0_ n1_ n2_ n3_
    refine start_ (n := 4) (S := fun w' => w'.cell? ⟨gb108, 0, none⟩ = some (.int .i64 t106) ∧ w'.cell? ⟨gb108, 1, none⟩ = some (.int .i64 t107)) (ds := []) #[false, false, false, false] (by kernel_rfl) rfl rfl ⟨(blk_cell BK108.out 0).trans rfl, (blk_cell BK108.out 1).trans rfl⟩ (fun hHeld => ?_)
    generalize w23.drew = w24 at HO104 BK101 BK108 HB hHeld ⊢
    refine pure_ (i := 1) (N := some 6) (v := ?_) (a' := ?_) #[false, true, false, false] rfl rfl (by kernel_rfl) (fun _ _ _ h => h) (Or.inl ⟨by rfl, ?_⟩) ?_ ?_
    rotate_left
    · intro w'
      go_simp
      with_reducible rfl
    rotate_left
    · simp only [Act.put, List.setIfInBounds_toArray, List.set_cons_zero, List.set_cons_succ, i64_w, i32_w]
      rfl
    refine pure_ (i := 2) (N := some 7) (v := ?_) (a' := ?_) #[false, true, true, false] rfl rfl (by kernel_rfl) (fun _ _ _ h => h) (Or.inl ⟨by rfl, ?_⟩) ?_ ?_
    rotate_left
    · intro w'
      go_simp
      with_reducible rfl
    rotate_left
    · simp only [Act.put, List.setIfInBounds_toArray, List.set_cons_zero, List.set_cons_succ, i64_w, i32_w]
      rfl
    refine take_ (i := 0) (N := some 25) (v := ?_) (a' := ?_) #[true, true, true, false] rfl rfl (by kernel_rfl) (fun _ _ _ h => h) (Or.inl ⟨by rfl, ?_⟩) hHeld ?_ ?_
    rotate_left
    · rintro w' ⟨s0, s1⟩
      go_simp
      with_reducible rfl
    rotate_left
    · simp only [Act.put, List.setIfInBounds_toArray, List.set_cons_zero, List.set_cons_succ, i64_w, i32_w]
      rfl
    refine one_ (i := 3) (N := none) #[true, true, true, true] rfl rfl (by kernel_rfl) (by decide) (fun K hK => ?_)
    have hs25 : w24.cell? ⟨gb101, 0, none⟩ = some (.int .i64 0) := (blk_cell BK101.out 0).trans rfl
    have hfs25 := blk_frozen BK101.out 0
    have hns25_1 := NB108_101.out
    have hms25_1 := NB101_108.out
    have hs26 : w24.cell? ⟨gb101, 1, none⟩ = some (.int .i64 0) := (blk_cell BK101.out 1).trans rfl
    have hfs26 := blk_frozen BK101.out 1
    have hns26_1 := NB108_101.out
    have hms26_1 := NB101_108.out
    refine skip_ (w1 := ?_) (by rfl) rfl ?_ ?_
    rotate_left
    · go_simp
      rfl
    refine hK.out _ _ ⟨((cell_far (p := ⟨gb101, _, none⟩) NB108_101.out _).trans (((cell_far (p := ⟨gb101, _, none⟩) NB108_101.out _).trans (hHeld.1)))), ((cell_far (p := ⟨gb101, _, none⟩) NB108_101.out _).trans (((cell_far (p := ⟨gb101, _, none⟩) NB108_101.out _).trans (hHeld.2))))⟩ (fun hHeld => ?_)
    clear hK K
    refine done_ (by kernel_rfl) ?_
    try go_wp2
    refine bodyPost_ret (results_list (rs := [.tmp 6, .tmp 7, .cell 8 31]) rfl (by simp) (.tmp (.tmp (.cell gb101 31 #[.int .i64 t106, .int .i64 t107] (0, 0) _ rfl (by (with_reducible repeat (first | refine blk_drewN ?_ _ | refine blk_drew ?_ | refine blk_alloc ?_ _)); refine blk_put (cs := #[.int .i64 t106, .int .i64 0]) ?_ 1 _ rfl; (with_reducible repeat (first | refine blk_drewN ?_ _ | refine blk_drew ?_ | refine blk_alloc ?_ _)); refine blk_put (cs := #[.int .i64 0, .int .i64 0]) ?_ 0 _ rfl; (with_reducible repeat (first | refine blk_drewN ?_ _ | refine blk_drew ?_ | refine blk_alloc ?_ _)); exact BK101.out) Try.underlying31 rfl (by kernel_rfl) .nil)))) rfl ?_
    exact ⟨by first | rfl | (simp [errW_none, errW_some] <;> rfl) | (simp [*, errW_none, errW_some] <;> rfl), by repeat (first | (with_reducible first | exact HB.out | apply below_alloc | apply pw_below_drewN | apply below_drew1 | refine below_set ?_ GE101.out | refine below_set ?_ GE108.out) | exact HB.out)⟩

end Go.Proofs.Ytjjbhpbmfpodeaa.X
end
section
namespace Go.Proofs.Ytjjbhpbmfpodeaa.X
open Go.RowKit Go.Proofs.YtjjbhpbmfpodeaaW.PrintWords Go.Proofs.YtjjbhpbmfpodeaaW.PrintLast Go.Proofs.YtjjbhpbmfpodeaaW.PrintMore
attribute [local go_sem] max2_int min2_int max_two min_two max_three min_three max_four min_four   -- for this text's walks alone
set_option linter.unusedVariables false
set_option linter.unusedSimpArgs false

end Go.Proofs.Ytjjbhpbmfpodeaa.X
end
section
namespace Go.Proofs.Ytjjbhpbmfpodeaa.X
open Go.RowKit Go.Proofs.YtjjbhpbmfpodeaaW.PrintWords Go.Proofs.YtjjbhpbmfpodeaaW.PrintLast Go.Proofs.YtjjbhpbmfpodeaaW.PrintMore
attribute [local go_sem] max2_int min2_int max_two min_two max_three min_three max_four min_four   -- for this text's walks alone
set_option linter.unusedVariables false
set_option linter.unusedSimpArgs false

/-! ### ostiaryref03_Get32: function 42 -/
def ostiaryref03_Get32.f (k : Nat) (l0 : List Int) (a1 : Int) : Option (Int × Int × Int × Int) := (ostiaryref03_get.f k l0 a1 4).bind fun bt102 => (some (bt102.1, bt102.2.1, bt102.2.2.1, bt102.2.2.2))
set_option maxHeartbeats 8000000 in
set_option maxRecDepth 100000 in
theorem ostiaryref03_Get32.calls (k : Nat) (A0 : Option Addr) (c0 : Nat) (l0 : List Int) (a1 : Int) (r1 : Int) (r2 : Int) (r3 : Int) (r4 : Int) (w : World) (hr0 : Kd.C (Kd.int .u8) w A0 l0.length l0) (hc0 : l0.length ≤ c0) (h : ostiaryref03_Get32.f k l0 a1 = some (r1, r2, r3, r4)) :
    Calls Try.prog 42 #[.slice A0 l0.length c0, .int .i64 a1] w fun e w' => e = .returned (.tuple #[.int .i64 r1, .int .i64 r2, .agg #[.int .i64 r3, .int .i64 r4]]) ∧ Below w.heap.size w w' := by
  have hu31 := Try.underlying31
  have HR0 := Aside0.mk hr0
  have HC0 := Aside0.mk hc0
  clear hr0 hc0
  have HB := Aside0.mk (Below.refl w.heap.size w)
  have H : ((ostiaryref03_get.f k l0 a1 4).bind fun bt102 => (some (bt102.1, bt102.2.1, bt102.2.2.1, bt102.2.2.2))) = some (r1, r2, r3, r4) := h
  clear h
  replace H := Option.bind_eq_some_iff.mp H
  obtain ⟨⟨t102, t103, t104, t105⟩, A30, H⟩ := H
  replace H : (some (t102, t103, t104, t105)) = some (r1, r2, r3, r4) := H
  have A3 := Aside0.mk A30
  clear A30
  simp only [Option.some.injEq, Prod.mk.injEq] at H
  obtain ⟨rfl, rfl, rfl, rfl⟩ := H
  go_enter Try.func42, Try.ntmps42
  go_wp2_with (first | ((with_reducible refine gate_dst (N := 6) rfl ?_); refine box_event ?hg (N := 6) ?hd (cs := #[.int .i64 0, .int .i64 0]) (t := 31) ?hr ?_; (case hd => rfl); (case hg => rfl); (case hr => first | (go_simp; done) | (go_simp; rfl)); intro gb101 hg w4 hbox hb; have n0_ := Aside0.mk (below_step (by repeat (first | (with_reducible first | exact HB.out | apply below_alloc | apply pw_below_drewN | apply below_drew1) | exact HB.out)) hb); have n1_ := Aside0.mk (hbox); have n2_ := Aside0.mk ((by rw [hg]; exact (below_size (by repeat (first | (with_reducible first | exact HB.out | apply below_alloc | apply pw_below_drewN | apply below_drew1) | exact HB.out))) : w.heap.size ≤ gb101)); have n3_ := Aside0.mk ((by rw [hg]; exact (below_size (by repeat (first | (with_reducible first | exact HB.out | apply below_alloc | apply pw_below_drewN | apply below_drew1) | exact HB.out))) : w.heap.size ≤ gb101)); clear HB; have HB := n0_; have BK101 := n1_; have GW101 := n2_; have GE101 := n3_; clear n0_ n1_ n2_ n3_; clear hb hbox hg) | ((with_reducible refine gate_callee (f := 92) rfl ?_); refine goesL_ (some 9) rfl rfl Try.func92 (by kernel_rfl) rfl #[.slice A0 l0.length c0, .int .i64 a1, .int .i64 4] rfl (by (try simp only [List.map_toArray, List.map_cons, List.map_nil]); first | done | rfl | (simp only [List.length_drop, List.length_take]; rfl)) ?_; (with_reducible refine (ostiaryref03_get.calls k _ _ l0 a1 4 t102 t103 t104 t105 _ ?side1 ?side2 A3.out).mono ?_); (case side1 => repeat (first | exact (Kd.C_below HR0.out HB.out) | (with_reducible refine Kd.C_alloc ?_ _) | (with_reducible refine Kd.C_drewN ?_ _) | (with_reducible refine Kd.C_drew ?_))); (case side2 => exact HC0.out); rintro e w5 ⟨rfl, hb⟩; refine ⟨_, rfl, ?_⟩; have n0_ := Aside0.mk (blk_below (g := gb101) (o := .cells #[.int .i64 0, .int .i64 0] 31 (0, 0)) (by (with_reducible repeat (first | refine blk_drewN ?_ _ | refine blk_drew ?_ | refine blk_alloc ?_ _)); exact BK101.out) hb); have n1_ := Aside0.mk (below_step (by repeat (first | (with_reducible first | exact HB.out | apply below_alloc | apply pw_below_drewN | apply below_drew1 | refine below_set ?_ GE101.out) | exact HB.out)) hb); clear BK101; clear HB; have BK101 := n0_; have HB := n1_; clear n0_ n1_; (try clear hb); (try clear hb2); (try clear hk); (try clear hi); have hcz6_0 : w5.cell? ⟨gb101, 0, none⟩ = some (.int .i64 0) := (blk_cell BK101.out 0).trans rfl; have hcz6_1 : w5.cell? ⟨gb101, 1, none⟩ = some (.int .i64 0) := (blk_cell BK101.out 1).trans rfl; have hfz6_0 := blk_frozen BK101.out 0; have hfz6_1 := blk_frozen BK101.out 1))
  refine bodyPost_ret (results_list (rs := [.tmp 4, .tmp 5, .cell 6 31]) rfl (by simp) (.tmp (.tmp (.cell gb101 31 #[.int .i64 t104, .int .i64 t105] (0, 0) _ rfl (by (with_reducible repeat (first | refine blk_drewN ?_ _ | refine blk_drew ?_ | refine blk_alloc ?_ _)); refine blk_put (cs := #[.int .i64 t104, .int .i64 0]) ?_ 1 _ rfl; (with_reducible repeat (first | refine blk_drewN ?_ _ | refine blk_drew ?_ | refine blk_alloc ?_ _)); refine blk_put (cs := #[.int .i64 0, .int .i64 0]) ?_ 0 _ rfl; (with_reducible repeat (first | refine blk_drewN ?_ _ | refine blk_drew ?_ | refine blk_alloc ?_ _)); exact BK101.out) Try.underlying31 rfl (by kernel_rfl) .nil)))) rfl ?_
  exact ⟨by first | rfl | (simp [errW_none, errW_some] <;> rfl) | (simp [*, errW_none, errW_some] <;> rfl), by repeat (first | (with_reducible first | exact HB.out | apply below_alloc | apply pw_below_drewN | apply below_drew1 | refine below_set ?_ GE101.out) | exact HB.out)⟩

end Go.Proofs.Ytjjbhpbmfpodeaa.X
end
section
namespace Go.Proofs.Ytjjbhpbmfpodeaa.PB
open Go.RowKit Go.Proofs.Ytjjbhpbmfpodeaa.X Go.Proofs.YtjjbhpbmfpodeaaW.PrintWords Go.Proofs.YtjjbhpbmfpodeaaW.PrintLast
set_option linter.unusedVariables false
set_option linter.unusedSimpArgs false

theorem refBytes_f {k : Nat} {l : List Int} {a n : Int} (hl : l.length ≤ 140737488351232) : ostiaryref03_Bytes.f (k + 1) l a n = some (bytesR l a n) := by
  unfold bytesR ostiaryref03_Bytes.f
  by_cases h1 : n < 0
  · rw [if_pos h1, if_pos h1]
  · rw [if_neg h1, if_neg h1]
    by_cases h2 : a < 0
    · rw [if_pos h2, if_pos (Or.inl h2), ostiaryref03_Bytes.j0, if_pos rfl]
    · rw [if_neg h2]
      by_cases h3 : (l.length : Int) < a
      · rw [if_pos (Or.inr h3), decide_eq_true (by omega), ostiaryref03_Bytes.j0, if_pos rfl]
      · rw [if_neg (fun h => h.elim h2 h3), decide_eq_false (by omega), ostiaryref03_Bytes.j0, if_neg (by decide), w64 (x := (l.length : Int) - a) (by omega) (by omega)]
        by_cases h4 : (l.length : Int) < a + n
        · rw [if_pos (by omega), if_pos h4]
        · rw [if_neg (by omega), if_neg h4, w64 (x := a + n) (by omega) (by omega)]
          simp only [Option.bind_some]
          rw [if_pos (by omega), if_pos (by omega), if_pos (by omega), if_pos (by simp; omega), List.nil_append, List.drop_take]
          congr 3
          omega

/-- What Get16 (s = 2) and Get32 (s = 4) tell. -/
def getR (l : List Int) (a s : Int) : Int × Int × Int × Int :=
  if a < 0 ∨ (l.length : Int) < a then (0, 0, 5, 0) else if (l.length : Int) < a + s then (0, 0, 4, (l.length : Int)) else (beVal ((l.drop a.toNat).take s.toNat), a + s, 0, 0)
theorem getR_f {l : List Int} {a s : Int} (hb : bytesB l = true) (hs : s = 2 ∨ s = 4) (hl : l.length ≤ 140737488355328) : octet_get.f l a s = some (getR l a s) := by
  unfold getR
  by_cases h2 : a < 0 ∨ (l.length : Int) < a
  · rw [if_pos h2]; exact get_range hb hs hl h2
  · rw [if_neg h2]
    by_cases h3 : (l.length : Int) < a + s
    · rw [if_pos h3]; exact get_short hb hs hl (by omega) (by omega) h3
    · rw [if_neg h3]; exact get_ok hb hs hl (by omega) (by omega)
theorem get32R {l : List Int} {a : Int} (hb : bytesB l = true) (hl : l.length ≤ 140737488355328) : octet_Get32.f l a = some (getR l a 4) := get32_of (getR_f hb (.inr rfl) hl)

theorem take_four (l : List Int) (i : Int) (h0 : 0 ≤ i) (h : i + 3 < l.length) : (l.drop i.toNat).take (4 : Int).toNat = [rd l i, rd l (i + 1), rd l (i + 2), rd l (i + 3)] := by
  rw [show (4 : Int).toNat = 3 + 1 from rfl, take_head l i h0 (by omega), List.drop_drop, show i.toNat + 1 = (i + 1).toNat by omega, take_head l (i + 1) (by omega) (by omega), List.drop_drop, show (i + 1).toNat + 1 = (i + 2).toNat by omega, take_head l (i + 2) (by omega) (by omega), List.drop_drop, show (i + 2).toNat + 1 = (i + 3).toNat by omega, take_head l (i + 3) (by omega) h]
  rfl

theorem refget4 {k : Nat} {l : List Int} {a : Int} (hb : bytesB l = true) (hl : l.length ≤ 140737488351232) : ostiaryref03_get.f (k + 5) l a 4 = some (getR l a 4) := by
  unfold ostiaryref03_get.f
  rw [refBytes_f hl]
  simp only [Option.bind_some]
  unfold bytesR getR
  rw [if_neg (show ¬ ((4 : Int) < 0) by decide)]
  by_cases h2 : a < 0 ∨ (l.length : Int) < a
  · rw [if_pos h2, if_pos h2]; rfl
  · rw [if_neg h2, if_neg h2]
    by_cases h3 : (l.length : Int) < a + 4
    · rw [if_pos h3, if_pos h3]; rfl
    · rw [if_neg h3, if_neg h3]
      rw [if_pos rfl, take_four l a (by omega) (by omega)]
      have r1 := rd_byte hb a
      have r2 := rd_byte hb (a + 1)
      have r3 := rd_byte hb (a + 2)
      have r4 := rd_byte hb (a + 3)
      generalize rd l a = x at *
      generalize rd l (a + 1) = y at *
      generalize rd l (a + 2) = z at *
      generalize rd l (a + 3) = u at *
      simp [ostiaryref03_get.l0, rd, wrap64, beVal]
      omega
theorem ref32R {k : Nat} {l : List Int} {a : Int} (hb : bytesB l = true) (hl : l.length ≤ 140737488351232) : ostiaryref03_Get32.f (k + 5) l a = some (getR l a 4) := by
  unfold ostiaryref03_Get32.f; rw [refget4 hb hl]; rfl
end Go.Proofs.Ytjjbhpbmfpodeaa.PB
end
