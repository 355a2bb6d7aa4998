/- A law of the document, proved of the program: its own texts (plain functions, the walks, plain lemmas, the row), one behind the other. Conditions: those in the theorems. Part 2 of 2. Laid by the session's program wip/merge2.py. -/
import Derived.Test.YtjjbhpbmfpodeaaRows
import Derived.Test.YtjjbhpbmfpodeaaProg
import Derived.Below
import Derived.Deep.Draws
import Derived.Deep.AppendLies
import Derived.Maps.AppendAt
import Derived.OwnWalk
import Derived.Laws.BytesArg
import Derived.Laws.MakeOwn
import Derived.Laws.OwnMore
import Derived.Deep.OwnRows
import Derived.Tactics
import Derived.Lib.ConvBytes
import Derived.Laws.Slices
import Derived.WalkKit
import Derived.KernelRfl
import Derived.RowKit3
import Derived.Deep.LoopGhost
import Derived.Deep.QuietTactic
import Derived.BigQuiet
import Derived.WideLaws
import Derived.Deep.DeepCutAuto
import Derived.Deep.CutBlock
import Derived.Deep.RegionHeld3
import Derived.Laws.Rows
import Derived.Lib.AppendStr
import Derived.ArgAppend
import Derived.Laws.IdiomCopy
import Derived.OrdersHeld
import Derived.Laws.BitsLemmas
import Derived.RowKit
import Derived.Test.YtjjbhpbmfpodeaaWWords
import Derived.Test.YtjjbhpbmfpodeaaWLast
import Derived.Test.YtjjbhpbmfpodeaaWTab
import Derived.Test.YtjjbhpbmfpodeaaWFour
import Derived.Test.YtjjbhpbmfpodeaaWQPut
import Derived.Test.YtjjbhpbmfpodeaaWApart
import Derived.Test.YtjjbhpbmfpodeaaWArr
import Derived.Test.YtjjbhpbmfpodeaaWZeros
import Derived.Test.YtjjbhpbmfpodeaaWFoot
import Derived.Test.YtjjbhpbmfpodeaaWKept
import Derived.Test.YtjjbhpbmfpodeaaWShare
import Derived.Test.YtjjbhpbmfpodeaaWN
import Derived.Test.YtjjbhpbmfpodeaaWFootNe
import Derived.Test.YtjjbhpbmfpodeaaWAt
import Derived.Test.YtjjbhpbmfpodeaaWEqStruct
import Derived.Test.YtjjbhpbmfpodeaaWRepsOne
import Derived.Test.YtjjbhpbmfpodeaaWInv
import Derived.Test.YtjjbhpbmfpodeaaWInvWords
import Derived.Test.YtjjbhpbmfpodeaaWGuard
import Derived.Test.YtjjbhpbmfpodeaaWNEv
import Derived.Test.YtjjbhpbmfpodeaaWMore
import Derived.RangeFuncWrites
import Derived.RangeFuncLeaves
import Derived.RangeFuncBox
import Derived.Deep.WholeRow
import Derived.Deep.RegionHeld
import Derived.Laws.CopyRow
import Derived.OwnWalkIn
import Derived.TacticsInMore
import Derived.LoopNIn
import Derived.LoopIn
import Derived.Sort.QuietIn
import Derived.Maps.OwnIn
import Derived.Recover
import Derived.Laws.Panics
import Derived.OpenShut
import Derived.Shelf.Abstract
import Derived.Shelf.RegionOpen
import Derived.Maps.Views
import Derived.Sort.MapsRangeIn
import Derived.StringKeys
import Derived.WalkSmall
import Derived.RecoverIn
import Derived.Laws.Pointers
import Derived.BigRegionIn
import Derived.WalkMore
import Derived.Lib.AtoiErrMem
import Derived.Deep.Slices
import Derived.Deep.Fields
import Derived.ChangeSame
import Derived.ProofKit
import Derived.JoinedOf
import Derived.ShutString
import Derived.ChangeOld
import Derived.SizedLaws
import Derived.Test.YtjjbhpbmfpodeaaWSized
import Derived.Test.YtjjbhpbmfpodeaaJWireBackA
section
namespace Go.Proofs.Ytjjbhpbmfpodeaa.X
open Go.RowKit Go.Proofs.Ytjjbhpbmfpodeaa.PB Go.Proofs.YtjjbhpbmfpodeaaW.PrintWords Go.Proofs.YtjjbhpbmfpodeaaW.PrintLast Go.Proofs.YtjjbhpbmfpodeaaW.PrintMore
set_option linter.unusedVariables false
set_option linter.unusedSimpArgs false
attribute [local go_sem] Oper.semAt_some

/-- The block of bytes that a conversion has laid (its last cell bears the conversion's mark), some of them turned. -/
def Conv (w : World) (b : Nat) (xs : List Int) : Prop := ∃ cs N, w.heap[b]? = some (.cells cs 5 (N, N + 1)) ∧ xs.length ≤ N ∧ ∀ j, j < xs.length → cs[j]? = some (.int .u8 (xs.getD j 0))
theorem Conv.cell {w : World} {b : Nat} {xs : List Int} (h : Conv w b xs) (j : Nat) (hj : j < xs.length) : w.cell? ⟨b, j, none⟩ = some (.int .u8 (xs.getD j 0)) := by
  obtain ⟨cs, N, h1, h2, h3⟩ := h
  rw [cell_of_row w b j cs 5 _ h1]; exact h3 j hj
theorem Conv.frozen {w : World} {b : Nat} {xs : List Int} (h : Conv w b xs) (j : Nat) (hj : j < xs.length) : w.frozen? ⟨b, j, none⟩ = false := by
  obtain ⟨cs, N, h1, h2, h3⟩ := h
  simp [World.frozen?, h1]; omega
theorem Conv.put {w : World} {b : Nat} {xs : List Int} (h : Conv w b xs) (i : Nat) (hi : i < xs.length) (x : Int) : Conv (w.setCell ⟨b, i, none⟩ (.int .u8 x)) b (xs.set i x) := by
  obtain ⟨cs, N, h1, h2, h3⟩ := h
  refine ⟨cs.setIfInBounds i (.int .u8 x), N, by simp [World.setCell, Array.getElem?_modify, h1], by rw [List.length_set]; exact h2, fun j hj => ?_⟩
  rw [List.length_set] at hj
  by_cases e : i = j
  · subst e
    have hs : i < cs.size := by
      have := h3 i hi
      rcases Nat.lt_or_ge i cs.size with h | h
      · exact h
      · rw [Array.getElem?_eq_none h] at this; cases this
    simp [hs, hj]
  · rw [Array.getElem?_setIfInBounds_ne e, h3 j hj]; simp [List.getD_eq_getElem?_getD, List.getElem?_set_ne e]
theorem Conv.start (w : World) (s : ByteArray) : Conv (Lib.bytesWorld w 5 s) w.heap.size (bytesOf s) := by
  refine ⟨_, _, Lib.bytesWorld_at_new w 5 s, ?_, fun j hj => ?_⟩
  · rw [bytesOf_length]; simp [Lib.bytesCells]
  · have h1 := Lib.bytesWorld_cell w 5 s j (by rwa [bytesOf_length] at hj)
    rw [cell_of_row _ _ j _ 5 _ (Lib.bytesWorld_at_new w 5 s)] at h1
    rw [h1]
    unfold bytesOf at hj ⊢
    rw [List.length_map] at hj
    simp [List.getD_eq_getElem?_getD, List.getElem?_eq_getElem hj]

end Go.Proofs.Ytjjbhpbmfpodeaa.X
end
section
namespace Go.Proofs.Ytjjbhpbmfpodeaa.X
open Go.RowKit Go.Proofs.YtjjbhpbmfpodeaaW.PrintWords Go.Proofs.YtjjbhpbmfpodeaaW.PrintLast Go.Proofs.YtjjbhpbmfpodeaaW.PrintMore
attribute [local go_sem] max2_int min2_int max_two min_two max_three min_three max_four min_four   -- for this text's walks alone
set_option linter.unusedVariables false
set_option linter.unusedSimpArgs false

end Go.Proofs.Ytjjbhpbmfpodeaa.X
end
section
namespace Go.Proofs.Ytjjbhpbmfpodeaa.PB
open Go.RowKit Go.Proofs.Ytjjbhpbmfpodeaa.X Go.Proofs.YtjjbhpbmfpodeaaW.PrintWords Go.Proofs.YtjjbhpbmfpodeaaW.PrintLast
set_option linter.unusedVariables false
set_option linter.unusedSimpArgs false

theorem ba_empty {s : ByteArray} (h : s.size = 0) : s = ⟨#[]⟩ := by
  apply ByteArray.ext
  exact Array.eq_empty_of_size_eq_zero h
end Go.Proofs.Ytjjbhpbmfpodeaa.PB
end
section
namespace Go.Proofs.Ytjjbhpbmfpodeaa.X
open Go.RowKit Go.Proofs.YtjjbhpbmfpodeaaW.PrintWords Go.Proofs.YtjjbhpbmfpodeaaW.PrintLast Go.Proofs.YtjjbhpbmfpodeaaW.PrintMore
attribute [local go_sem] max2_int min2_int max_two min_two max_three min_three max_four min_four   -- for this text's walks alone
set_option linter.unusedVariables false
set_option linter.unusedSimpArgs false

/-! ### ostiaryref04_Labels: function 114 -/
def ostiaryref04_Labels.l0 : Nat → ByteArray → List ByteArray → Int → Option (List ByteArray × Int)
  | 0, _, _, _ => none
  | k + 1, x0, x4, x5 => if x5 ≥ (x0.size : Int) then (some (([] : List ByteArray), 4)) else (if 0 ≤ x5 then (if x5 < (x0.size : Int) then (if (wrap64 (bt x0 x5)) = 0 then (if x5 = (wrap64 ((x0.size : Int) - 1)) then (if (x0.size : Int) > 255 then (some (([] : List ByteArray), 3)) else (some (x4, 0))) else (some (([] : List ByteArray), 4))) else (if (wrap64 (bt x0 x5)) > 63 then (some (([] : List ByteArray), 4)) else (if (wrap64 ((wrap64 (x5 + 1)) + (wrap64 (bt x0 x5)))) > (x0.size : Int) then (some (([] : List ByteArray), 4)) else (if 0 ≤ (wrap64 (x5 + 1)) then (if (wrap64 (x5 + 1)) ≤ (wrap64 ((wrap64 (x5 + 1)) + (wrap64 (bt x0 x5)))) then (if (wrap64 ((wrap64 (x5 + 1)) + (wrap64 (bt x0 x5)))) ≤ (x0.size : Int) then (if x4.length < 8796093022208 then (ostiaryref04_Labels.l0 k x0 (x4 ++ [x0.extract ((wrap64 (x5 + 1)) : Int).toNat ((wrap64 ((wrap64 (x5 + 1)) + (wrap64 (bt x0 x5)))) : Int).toNat]) (wrap64 ((wrap64 (x5 + 1)) + (wrap64 (bt x0 x5))))) else (none)) else (none)) else (none)) else (none))))) else (none)) else (none))
def ostiaryref04_Labels.f (k : Nat) (a0 : ByteArray) : Option (List ByteArray × Int) := ostiaryref04_Labels.l0 k a0 ([] : List ByteArray) 0
set_option maxHeartbeats 8000000 in
set_option maxRecDepth 100000 in
theorem ostiaryref04_Labels.calls (k : Nat) (a0 : ByteArray) (r1 : List ByteArray) (r2 : Int) (w : World) (h : ostiaryref04_Labels.f k a0 = some (r1, r2)) :
    Calls Try.prog 114 #[.string a0] w fun e w' => ∃ v0_ : Value, e = .returned (.tuple #[v0_, .int .i64 r2]) ∧ Kd.R Kd.string 9 w' w.heap.size (fun _ => True) v0_ r1 ∧ Below w.heap.size w w' := by
  have HB := Aside0.mk (Below.refl w.heap.size w)
  have H : (ostiaryref04_Labels.l0 k a0 ([] : List ByteArray) 0) = some (r1, r2) := h
  clear h
  have H' := Aside0.mk H
  clear H
  go_enter Try.func114, Try.ntmps114
  go_wp2
  go_loopg [4, 5] k (fun kq v4 v5 w' => ∃ (x4_1 : List ByteArray) (x5_1 : Int), v5 = .int .i64 x5_1 ∧ Aside0 (ostiaryref04_Labels.l0 kq a0 x4_1 x5_1 = some (r1, r2)) ∧ Aside0 (kq ≤ k) ∧ Aside0 (Kd.R Kd.string 9 w' w.heap.size (fun _ => True) v4 x4_1) ∧ Aside0 (Below w.heap.size w w'))
  case atStart => exact ⟨(([] : List ByteArray)), (0), (by first | rfl | (simp; done) | (simp [*]; done)), H', ⟨Nat.le_refl _⟩, ⟨by first | exact Kd.R_nil _ _ _ _ _ | exact Kd.N_nil _ _ _ _ _ | exact Kd.V_nil _ _ _ _ _ | exact Kd.Q_nil _ _ _ _ _ | exact Kd.S_nil _ _ _ _ _⟩, ⟨by repeat (first | (with_reducible first | exact HB.out | apply below_alloc | apply pw_below_drewN | apply below_drew1) | exact HB.out)⟩⟩
  case round =>
    clear H'
    try clear c1
    obtain ⟨x4_1, x5_1, rfl, HA, HK1, HO_4, HB⟩ := hrel
    cases gk with
    | zero => exact absurd HA.out (by simp [ostiaryref04_Labels.l0])
    | succ k1 =>
      have H := HA.out
      clear HA
      simp only [ostiaryref04_Labels.l0] at H
      by_cases c2 : x5_1 ≥ (a0.size : Int)
      · rw [if_pos c2] at H
        have c2b0 : decide ((a0.size : Int) ≤ x5_1) = true := decide_eq_true c2
        clear c2
        simp only [Option.some.injEq, Prod.mk.injEq] at H
        obtain ⟨rfl, rfl⟩ := H
        go_wp2
        go_ret2
        exact ⟨_, by first | rfl | (simp [errW_none, errW_some] <;> rfl) | (simp [*, errW_none, errW_some] <;> rfl), by first | exact Kd.R_nil _ _ _ _ _ | exact Kd.N_nil _ _ _ _ _ | exact Kd.V_nil _ _ _ _ _ | exact Kd.Q_nil _ _ _ _ _ | exact Kd.S_nil _ _ _ _ _, by repeat (first | (with_reducible first | exact HB.out | apply below_alloc | apply pw_below_drewN | apply below_drew1) | exact HB.out)⟩
      · rw [if_neg c2] at H
        have c2b0 : decide ((a0.size : Int) ≤ x5_1) = false := decide_eq_false c2
        clear c2
        by_cases c3 : 0 ≤ x5_1
        · rw [if_pos c3] at H
          have c3b0 : decide (0 ≤ x5_1) = true := decide_eq_true c3
          clear c3
          by_cases c4 : x5_1 < (a0.size : Int)
          · rw [if_pos c4] at H
            have c4b0 : decide (x5_1 < (a0.size : Int)) = true := decide_eq_true c4
            clear c4
            by_cases c6 : (wrap64 (bt a0 x5_1)) = 0
            · rw [if_pos c6] at H
              have c6b0 : ((wrap64 (bt a0 x5_1)) == 0) = true := beq_iff_eq.mpr c6
              have c6b1 : ((wrap64 (bt a0 x5_1)) != 0) = false := bne_eq_false_iff_eq.mpr c6
              clear c6
              by_cases c7 : x5_1 = (wrap64 ((a0.size : Int) - 1))
              · rw [if_pos c7] at H
                have c7b0 : (x5_1 == (wrap64 ((a0.size : Int) - 1))) = true := beq_iff_eq.mpr c7
                have c7b1 : (x5_1 != (wrap64 ((a0.size : Int) - 1))) = false := bne_eq_false_iff_eq.mpr c7
                clear c7
                by_cases c8 : (a0.size : Int) > 255
                · rw [if_pos c8] at H
                  have c8b0 : decide (255 < (a0.size : Int)) = true := decide_eq_true c8
                  have c8b1 : decide (255 < a0.size) = true := decide_eq_true (by omega)
                  clear c8
                  simp only [Option.some.injEq, Prod.mk.injEq] at H
                  obtain ⟨rfl, rfl⟩ := H
                  have p5 : 0 ≤ (x5_1 : Int) := of_decide_eq_true (by first | (with_reducible assumption) | assumption)
                  have q5 : x5_1 < (a0.size : Int) := of_decide_eq_true (by first | (with_reducible assumption) | assumption)
                  have hx5 := bt_at a0 x5_1
                  replace p5 := eq_true p5
                  replace q5 := eq_true q5
                  go_wp2
                  go_ret2
                  exact ⟨_, by first | rfl | (simp [errW_none, errW_some] <;> rfl) | (simp [*, errW_none, errW_some] <;> rfl), by first | exact Kd.R_nil _ _ _ _ _ | exact Kd.N_nil _ _ _ _ _ | exact Kd.V_nil _ _ _ _ _ | exact Kd.Q_nil _ _ _ _ _ | exact Kd.S_nil _ _ _ _ _, by repeat (first | (with_reducible first | exact HB.out | apply below_alloc | apply pw_below_drewN | apply below_drew1) | exact HB.out)⟩
                · rw [if_neg c8] at H
                  have c8b0 : decide (255 < (a0.size : Int)) = false := decide_eq_false c8
                  have c8b1 : decide (255 < a0.size) = false := decide_eq_false (by omega)
                  clear c8
                  simp only [Option.some.injEq, Prod.mk.injEq] at H
                  obtain ⟨rfl, rfl⟩ := H
                  have p5 : 0 ≤ (x5_1 : Int) := of_decide_eq_true (by first | (with_reducible assumption) | assumption)
                  have q5 : x5_1 < (a0.size : Int) := of_decide_eq_true (by first | (with_reducible assumption) | assumption)
                  have hx5 := bt_at a0 x5_1
                  replace p5 := eq_true p5
                  replace q5 := eq_true q5
                  go_wp2
                  go_ret2
                  exact ⟨_, by first | rfl | (simp [errW_none, errW_some] <;> rfl) | (simp [*, errW_none, errW_some] <;> rfl), by (with_reducible repeat (first | apply Kd.R_alloc | apply Kd.R_drewN | apply Kd.R_drew)); exact HO_4.out, by repeat (first | (with_reducible first | exact HB.out | apply below_alloc | apply pw_below_drewN | apply below_drew1) | exact HB.out)⟩
              · rw [if_neg c7] at H
                have c7b0 : (x5_1 == (wrap64 ((a0.size : Int) - 1))) = false := beq_eq_false_iff_ne.mpr c7
                have c7b1 : (x5_1 != (wrap64 ((a0.size : Int) - 1))) = true := bne_iff_ne.mpr c7
                simp only [Option.some.injEq, Prod.mk.injEq] at H
                obtain ⟨rfl, rfl⟩ := H
                have p5 : 0 ≤ (x5_1 : Int) := of_decide_eq_true (by first | (with_reducible assumption) | assumption)
                have q5 : x5_1 < (a0.size : Int) := of_decide_eq_true (by first | (with_reducible assumption) | assumption)
                have hx5 := bt_at a0 x5_1
                replace p5 := eq_true p5
                replace q5 := eq_true q5
                go_wp2
                go_ret2
                exact ⟨_, by first | rfl | (simp [errW_none, errW_some] <;> rfl) | (simp [*, errW_none, errW_some] <;> rfl), by first | exact Kd.R_nil _ _ _ _ _ | exact Kd.N_nil _ _ _ _ _ | exact Kd.V_nil _ _ _ _ _ | exact Kd.Q_nil _ _ _ _ _ | exact Kd.S_nil _ _ _ _ _, by repeat (first | (with_reducible first | exact HB.out | apply below_alloc | apply pw_below_drewN | apply below_drew1) | exact HB.out)⟩
            · rw [if_neg c6] at H
              have c6b0 : ((wrap64 (bt a0 x5_1)) == 0) = false := beq_eq_false_iff_ne.mpr c6
              have c6b1 : ((wrap64 (bt a0 x5_1)) != 0) = true := bne_iff_ne.mpr c6
              by_cases c9 : (wrap64 (bt a0 x5_1)) > 63
              · rw [if_pos c9] at H
                have c9b0 : decide (63 < (wrap64 (bt a0 x5_1))) = true := decide_eq_true c9
                clear c9
                simp only [Option.some.injEq, Prod.mk.injEq] at H
                obtain ⟨rfl, rfl⟩ := H
                have p5 : 0 ≤ (x5_1 : Int) := of_decide_eq_true (by first | (with_reducible assumption) | assumption)
                have q5 : x5_1 < (a0.size : Int) := of_decide_eq_true (by first | (with_reducible assumption) | assumption)
                have hx5 := bt_at a0 x5_1
                replace p5 := eq_true p5
                replace q5 := eq_true q5
                go_wp2
                go_ret2
                exact ⟨_, by first | rfl | (simp [errW_none, errW_some] <;> rfl) | (simp [*, errW_none, errW_some] <;> rfl), by first | exact Kd.R_nil _ _ _ _ _ | exact Kd.N_nil _ _ _ _ _ | exact Kd.V_nil _ _ _ _ _ | exact Kd.Q_nil _ _ _ _ _ | exact Kd.S_nil _ _ _ _ _, by repeat (first | (with_reducible first | exact HB.out | apply below_alloc | apply pw_below_drewN | apply below_drew1) | exact HB.out)⟩
              · rw [if_neg c9] at H
                have c9b0 : decide (63 < (wrap64 (bt a0 x5_1))) = false := decide_eq_false c9
                clear c9
                by_cases c10 : (wrap64 ((wrap64 (x5_1 + 1)) + (wrap64 (bt a0 x5_1)))) > (a0.size : Int)
                · rw [if_pos c10] at H
                  have c10b0 : decide ((a0.size : Int) < (wrap64 ((wrap64 (x5_1 + 1)) + (wrap64 (bt a0 x5_1))))) = true := decide_eq_true c10
                  clear c10
                  simp only [Option.some.injEq, Prod.mk.injEq] at H
                  obtain ⟨rfl, rfl⟩ := H
                  have p5 : 0 ≤ (x5_1 : Int) := of_decide_eq_true (by first | (with_reducible assumption) | assumption)
                  have q5 : x5_1 < (a0.size : Int) := of_decide_eq_true (by first | (with_reducible assumption) | assumption)
                  have hx5 := bt_at a0 x5_1
                  replace p5 := eq_true p5
                  replace q5 := eq_true q5
                  go_wp2
                  go_ret2
                  exact ⟨_, by first | rfl | (simp [errW_none, errW_some] <;> rfl) | (simp [*, errW_none, errW_some] <;> rfl), by first | exact Kd.R_nil _ _ _ _ _ | exact Kd.N_nil _ _ _ _ _ | exact Kd.V_nil _ _ _ _ _ | exact Kd.Q_nil _ _ _ _ _ | exact Kd.S_nil _ _ _ _ _, by repeat (first | (with_reducible first | exact HB.out | apply below_alloc | apply pw_below_drewN | apply below_drew1) | exact HB.out)⟩
                · rw [if_neg c10] at H
                  have c10b0 : decide ((a0.size : Int) < (wrap64 ((wrap64 (x5_1 + 1)) + (wrap64 (bt a0 x5_1))))) = false := decide_eq_false c10
                  clear c10
                  obtain ⟨ji11, hji11⟩ : ∃ j_ : Int, (wrap64 (x5_1 + 1)) = j_ := ⟨_, rfl⟩
                  replace H : (if 0 ≤ (ji11) then (if (ji11) ≤ (wrap64 ((ji11) + (wrap64 (bt a0 x5_1)))) then (if (wrap64 ((ji11) + (wrap64 (bt a0 x5_1)))) ≤ (a0.size : Int) then (if x4_1.length < 8796093022208 then (ostiaryref04_Labels.l0 k1 a0 (x4_1 ++ [a0.extract ((ji11) : Int).toNat ((wrap64 ((ji11) + (wrap64 (bt a0 x5_1)))) : Int).toNat]) (wrap64 ((ji11) + (wrap64 (bt a0 x5_1))))) else (none)) else (none)) else (none)) else (none)) = some (r1, r2) := by first | (rw [hji11] at H; exact H) | (simp only [hji11] at H ⊢; exact H)
                  (try rw [hji11] at c10b0)
                  have hji11w : (IntKind.i64.wrap (x5_1 + 1)) = ji11 := (i64_w _).trans hji11
                  by_cases c12 : 0 ≤ (ji11)
                  · rw [if_pos c12] at H
                    have c12b0 := eq_true c12
                    have c12b1 : decide (0 ≤ (ji11)) = true := decide_eq_true c12
                    clear c12
                    by_cases c13 : (ji11) ≤ (wrap64 ((ji11) + (wrap64 (bt a0 x5_1))))
                    · rw [if_pos c13] at H
                      have c13b0 := eq_true c13
                      have c13b1 : decide ((ji11) ≤ (wrap64 ((ji11) + (wrap64 (bt a0 x5_1))))) = true := decide_eq_true c13
                      by_cases c14 : (wrap64 ((ji11) + (wrap64 (bt a0 x5_1)))) ≤ (a0.size : Int)
                      · rw [if_pos c14] at H
                        have c14b0 := eq_true c14
                        have c14b1 : decide ((wrap64 ((ji11) + (wrap64 (bt a0 x5_1)))) ≤ (a0.size : Int)) = true := decide_eq_true c14
                        by_cases c15 : x4_1.length < 8796093022208
                        · rw [if_pos c15] at H
                          have LMc15 := Aside0.mk c15
                          clear c15
                          obtain ⟨y101, hy101⟩ : ∃ y_ : List ByteArray, y_ = (x4_1 ++ [a0.extract ((ji11) : Int).toNat ((wrap64 ((ji11) + (wrap64 (bt a0 x5_1)))) : Int).toNat]) := ⟨_, rfl⟩
                          replace H : (ostiaryref04_Labels.l0 k1 a0 y101 (wrap64 ((ji11) + (wrap64 (bt a0 x5_1))))) = some (r1, r2) := by first | (rw [hy101]; with_reducible exact H) | (have H2_ := (Option.bind_some _ _).symm.trans H; rw [hy101]; with_reducible exact H2_) | (have H2_ := (Option.bind_some _ _).symm.trans H; with_reducible exact H2_) | with_reducible exact H | (rw [hy101]; exact H) | exact H
                          have Ny101 := Aside0.mk hy101
                          clear hy101
                          have H' := Aside0.mk H
                          clear H
                          have p5 : 0 ≤ (x5_1 : Int) := of_decide_eq_true (by first | (with_reducible assumption) | assumption)
                          have q5 : x5_1 < (a0.size : Int) := of_decide_eq_true (by first | (with_reducible assumption) | assumption)
                          have hx5 := bt_at a0 x5_1
                          replace p5 := eq_true p5
                          replace q5 := eq_true q5
                          go_wp2_with (first | ((with_reducible refine gate_builtin (b := .append) (xs := #[.tmp 28, .tmp 37]) rfl ?_); (try (refine gate_guard (by rfl) ?_; dsimp only)); at_builtin; refine Kd.R_append Kd.string (w0 := w) w.heap.size rfl (.tmp 28) (.tmp 37) 50 9 (.string ⟨#[]⟩) 16 rfl Try.underlying50 info9 rfl (by decide) (by omega) u4 x4_1 (a0.extract ((ji11) : Int).toNat ((wrap64 ((ji11) + (wrap64 (bt a0 x5_1)))) : Int).toNat) [.string (a0.extract ((ji11) : Int).toNat ((wrap64 ((ji11) + (wrap64 (bt a0 x5_1)))) : Int).toNat)] (fun _ => True) (fun _ => False) rfl rfl ?aP (fun _ hk => hk.elim) ?aF ?aO ?aB ?aS ?aL ?_; (case aP => exact rfl); (case aB => exact (by repeat (first | (with_reducible first | exact HB.out | apply below_alloc | apply pw_below_drewN | apply below_drew1) | exact HB.out))); (case aF => exact (fun _ _ => trivial)); (case aO => exact (by (with_reducible repeat (first | apply Kd.R_alloc | apply Kd.R_drewN | apply Kd.R_drew)); exact HO_4.out)); (case aS => exact (below_size (by repeat (first | (with_reducible first | exact HB.out | apply below_alloc | apply pw_below_drewN | apply below_drew1) | exact HB.out)))); (case aL => have := LMc15.out; omega); intro v102 w16 ho hb hg hat; rw [← Ny101.out] at ho; have n0_ := Aside0.mk (hb); have n1_ := Aside0.mk (ho); clear HB; clear HO_4; have HB := n0_; have HO103 := n1_; clear n0_ n1_; clear ho hb hg hat))
                          go_roundg k1
                          case measure => have := HK1.out; omega
                          case rel => exact ⟨(y101), (wrap64 ((ji11) + (wrap64 (bt a0 x5_1)))), (by first | rfl | (simp; done) | (simp only [← hji11] <;> (first | rfl | simp)) | (simp [*]; done)), H', ⟨by have := HK1.out; omega⟩, ⟨by (with_reducible repeat (first | apply Kd.R_alloc | apply Kd.R_drewN | apply Kd.R_drew)); exact HO103.out⟩, ⟨by repeat (first | (with_reducible first | exact HB.out | apply below_alloc | apply pw_below_drewN | apply below_drew1) | exact HB.out)⟩⟩
                        · rw [if_neg c15] at H
                          exact absurd H (by simp)
                      · rw [if_neg c14] at H
                        exact absurd H (by simp)
                    · rw [if_neg c13] at H
                      exact absurd H (by simp)
                  · rw [if_neg c12] at H
                    exact absurd H (by simp)
          · rw [if_neg c4] at H
            exact absurd H (by simp)
        · rw [if_neg c3] at H
          exact absurd H (by simp)

end Go.Proofs.Ytjjbhpbmfpodeaa.X
end
section
namespace Go.Proofs.Ytjjbhpbmfpodeaa.X
open Go.RowKit Go.Proofs.YtjjbhpbmfpodeaaW.PrintWords Go.Proofs.YtjjbhpbmfpodeaaW.PrintLast Go.Proofs.YtjjbhpbmfpodeaaW.PrintMore
attribute [local go_sem] max2_int min2_int max_two min_two max_three min_three max_four min_four   -- for this text's walks alone
set_option linter.unusedVariables false
set_option linter.unusedSimpArgs false

/-! ### ostiaryref04_Check: function 94 -/
def ostiaryref04_Check.f (k : Nat) (a0 : ByteArray) : Option (Int) := (ostiaryref04_Labels.f k a0).bind fun bt101 => (some bt101.2)
set_option maxHeartbeats 8000000 in
set_option maxRecDepth 100000 in
theorem ostiaryref04_Check.calls (k : Nat) (a0 : ByteArray) (r : Int) (w : World) (h : ostiaryref04_Check.f k a0 = some r) :
    Calls Try.prog 94 #[.string a0] w fun e w' => e = .returned (.int .i64 r) ∧ Below w.heap.size w w' := by
  have HB := Aside0.mk (Below.refl w.heap.size w)
  have H : ((ostiaryref04_Labels.f k a0).bind fun bt101 => (some bt101.2)) = some r := h
  clear h
  replace H := Option.bind_eq_some_iff.mp H
  obtain ⟨⟨t101, t102⟩, A20, H⟩ := H
  replace H : (some t102) = some r := H
  have A2 := Aside0.mk A20
  clear A20
  obtain rfl := Option.some.inj H
  go_enter Try.func94, Try.ntmps94
  go_wp2_with (first | ((with_reducible refine gate_callee (f := 114) rfl ?_); refine goesL_ (some 7) rfl rfl Try.func114 (by kernel_rfl) rfl #[.string a0] rfl (by (try simp only [List.map_toArray, List.map_cons, List.map_nil]); first | done | rfl | (simp only [List.length_drop, List.length_take]; rfl)) ?_; (with_reducible refine (ostiaryref04_Labels.calls k a0 t101 t102 _ A2.out).mono ?_); rintro e w3 ⟨v103, rfl, ho0, hb⟩; refine ⟨_, rfl, ?_⟩; have n0_ := Aside0.mk (Kd.R_lower ho0 (below_size (by repeat (first | (with_reducible first | exact HB.out | apply below_alloc | apply pw_below_drewN | apply below_drew1) | exact HB.out)))); have n1_ := Aside0.mk (below_step (by repeat (first | (with_reducible first | exact HB.out | apply below_alloc | apply pw_below_drewN | apply below_drew1) | exact HB.out)) hb); clear HB; have HO104 := n0_; have HB := n1_; clear n0_ n1_; (try clear hb); (try clear hb2); (try clear hk); (try clear hi); (try clear ho0)))
  go_ret
  exact ⟨by first | rfl | (simp [errW_none, errW_some] <;> rfl) | (simp [*, errW_none, errW_some] <;> rfl), by repeat (first | (with_reducible first | exact HB.out | apply below_alloc | apply pw_below_drewN | apply below_drew1) | exact HB.out)⟩

end Go.Proofs.Ytjjbhpbmfpodeaa.X
end
section
namespace Go.Proofs.Ytjjbhpbmfpodeaa.X
open Go.RowKit Go.Proofs.YtjjbhpbmfpodeaaW.PrintWords Go.Proofs.YtjjbhpbmfpodeaaW.PrintLast Go.Proofs.YtjjbhpbmfpodeaaW.PrintMore
attribute [local go_sem] max2_int min2_int max_two min_two max_three min_three max_four min_four   -- for this text's walks alone
set_option linter.unusedVariables false
set_option linter.unusedSimpArgs false

end Go.Proofs.Ytjjbhpbmfpodeaa.X
end
section
namespace Go.Proofs.Ytjjbhpbmfpodeaa.X
open Go.RowKit Go.Proofs.YtjjbhpbmfpodeaaW.PrintWords Go.Proofs.YtjjbhpbmfpodeaaW.PrintLast Go.Proofs.YtjjbhpbmfpodeaaW.PrintMore
attribute [local go_sem] max2_int min2_int max_two min_two max_three min_three max_four min_four   -- for this text's walks alone
set_option linter.unusedVariables false
set_option linter.unusedSimpArgs false

end Go.Proofs.Ytjjbhpbmfpodeaa.X
end
section
namespace Go.Proofs.Ytjjbhpbmfpodeaa.X
open Go.RowKit Go.Proofs.YtjjbhpbmfpodeaaW.PrintWords Go.Proofs.YtjjbhpbmfpodeaaW.PrintLast Go.Proofs.YtjjbhpbmfpodeaaW.PrintMore
attribute [local go_sem] max2_int min2_int max_two min_two max_three min_three max_four min_four   -- for this text's walks alone
set_option linter.unusedVariables false
set_option linter.unusedSimpArgs false

end Go.Proofs.Ytjjbhpbmfpodeaa.X
end
section
namespace Go.Proofs.Ytjjbhpbmfpodeaa.X
open Go.RowKit Go.Proofs.YtjjbhpbmfpodeaaW.PrintWords Go.Proofs.YtjjbhpbmfpodeaaW.PrintLast Go.Proofs.YtjjbhpbmfpodeaaW.PrintMore
attribute [local go_sem] max2_int min2_int max_two min_two max_three min_three max_four min_four   -- for this text's walks alone
set_option linter.unusedVariables false
set_option linter.unusedSimpArgs false

end Go.Proofs.Ytjjbhpbmfpodeaa.X
end
section
namespace Go.Proofs.Ytjjbhpbmfpodeaa.X
open Go.RowKit Go.Proofs.YtjjbhpbmfpodeaaW.PrintWords Go.Proofs.YtjjbhpbmfpodeaaW.PrintLast Go.Proofs.YtjjbhpbmfpodeaaW.PrintMore
attribute [local go_sem] max2_int min2_int max_two min_two max_three min_three max_four min_four   -- for this text's walks alone
set_option linter.unusedVariables false
set_option linter.unusedSimpArgs false

end Go.Proofs.Ytjjbhpbmfpodeaa.X
end
section
namespace Go.Proofs.Ytjjbhpbmfpodeaa.PB
open Go.RowKit Go.Proofs.Ytjjbhpbmfpodeaa.X Go.Proofs.YtjjbhpbmfpodeaaW.PrintWords Go.Proofs.YtjjbhpbmfpodeaaW.PrintLast
set_option linter.unusedVariables false
set_option linter.unusedSimpArgs false

theorem ext_str (s : ByteArray) (a b : Nat) : s.extract a b = strOfNums (((bytesOf s).drop a).take (b - a)) := by
  conv => lhs; rw [← str_of_bytes s]
  exact str_extract _ _ _
theorem ext_tail (s : ByteArray) (a : Nat) : s.extract a s.size = strOfNums ((bytesOf s).drop a) := by
  rw [ext_str, List.take_of_length_le (by rw [List.length_drop, bytesOf_len]; omega)]
theorem bt_rd (s : ByteArray) (i : Int) : bt s i = rd (bytesOf s) i := (rd_bytesOf s i).symm
theorem tail_rest (s : ByteArray) (a b : Nat) (h : a ≤ b) : (s.extract a s.size).extract (b - a) (s.extract a s.size).size = s.extract b s.size := by
  rw [ext_tail s b, ext_tail s a, str_extract, strOfNums_size, List.drop_drop, show a + (b - a) = b by omega, List.take_of_length_le]
  simp; omega
theorem tail_bt (s : ByteArray) (i : Int) (h0 : 0 ≤ i) : bt (s.extract i.toNat s.size) 0 = bt s i := by
  rw [ext_tail, bt_str (bytesB_drop _ (bytesB_bytesOf s)), bt_rd]
  have := rd_drop (bytesOf s) i.toNat i (by omega)
  rwa [show i - (i.toNat : Int) = 0 by omega] at this
theorem tail_size (s : ByteArray) (i : Int) : (s.extract i.toNat s.size).size = s.size - i.toNat := by rw [ByteArray.size_extract]; omega
theorem root_tail (s : ByteArray) (i : Int) (h0 : 0 ≤ i) (h1 : i < s.size) : lbRoot (s.extract i.toNat s.size) = true ↔ (bt s i = 0 ∧ i = s.size - 1) := by
  have hb := bytesB_drop i.toNat (bytesB_bytesOf s)
  have hl := bytesOf_len s
  rw [ext_tail, lbRoot_str hb]
  constructor
  · intro h
    have h2 := congrArg List.length h
    rw [List.length_drop, hl] at h2
    simp at h2
    have h3 := tail_bt s i h0
    rw [ext_tail, bt_str hb, h] at h3
    exact ⟨h3.symm, by omega⟩
  · rintro ⟨h2, h3⟩
    have h4 := tail_bt s i h0
    rw [ext_tail, bt_str hb, h2] at h4
    have h5 : ((bytesOf s).drop i.toNat).length = 1 := by rw [List.length_drop, hl]; omega
    obtain ⟨x, hx⟩ := List.length_eq_one_iff.1 h5
    rw [hx] at h4 ⊢
    have : x = 0 := h4
    rw [this]

theorem ref_labels {s : ByteArray} (hs : s.size ≤ 2000000) : ∀ (M : Nat) (acc : List ByteArray) (i : Int) (kk : Nat), 0 ≤ i → i ≤ s.size → s.size - i.toNat < M → s.size - i.toNat < kk → acc.length ≤ i.toNat →
    ∃ L, ∀ k, M ≤ k → ostiaryref04_Labels.l0 k s acc i = some (L, if (lbEvs kk (s.extract i.toNat s.size)).all (·.2) = true then (if 255 < s.size then 3 else 0) else 4) := by
  intro M
  induction M with
  | zero => intro acc i kk _ _ h; omega
  | succ M ih =>
    intro acc i kk h0 h1 hM hkk hacc
    obtain ⟨kk, rfl⟩ : ∃ m, kk = m + 1 := ⟨kk - 1, by omega⟩
    have hts := tail_size s i
    rw [lbEvs]
    by_cases hend : i = s.size
    · refine ⟨[], fun k hk => ?_⟩
      obtain ⟨k, rfl⟩ : ∃ m, k = m + 1 := ⟨k - 1, by omega⟩
      have hr : lbRoot (s.extract i.toNat s.size) = false := by
        rw [ba_empty (s := s.extract i.toNat s.size) (by rw [hts]; omega)]; unfold lbRoot; rw [ByteArray.toList_eq]; rfl
      have hb : lbBad (s.extract i.toNat s.size) = true := by unfold lbBad; rw [hts, show s.size - i.toNat = 0 by omega]; rfl
      rw [ostiaryref04_Labels.l0, if_pos (by omega), hr, hb]
      simp
    have hbt := bt_range s i
    have hb0 := tail_bt s i h0
    have hw : wrap64 (bt s i) = bt s i := w64 (by omega) (by omega)
    have hroot := root_tail s i h0 (by omega)
    by_cases hz : bt s i = 0
    · by_cases hl : i = s.size - 1
      · rw [hroot.2 ⟨hz, hl⟩]
        by_cases h255 : 255 < s.size
        · refine ⟨[], fun k hk => ?_⟩
          obtain ⟨k, rfl⟩ : ∃ m, k = m + 1 := ⟨k - 1, by omega⟩
          rw [ostiaryref04_Labels.l0, if_neg (by omega), if_pos h0, if_pos (by omega), hw, if_pos hz, if_pos (by rw [w64 (by omega) (by omega)]; exact hl), if_pos (by omega)]
          simp [h255]
        · refine ⟨acc, fun k hk => ?_⟩
          obtain ⟨k, rfl⟩ : ∃ m, k = m + 1 := ⟨k - 1, by omega⟩
          rw [ostiaryref04_Labels.l0, if_neg (by omega), if_pos h0, if_pos (by omega), hw, if_pos hz, if_pos (by rw [w64 (by omega) (by omega)]; exact hl), if_neg (by omega)]
          simp [h255]
      · refine ⟨[], fun k hk => ?_⟩
        obtain ⟨k, rfl⟩ : ∃ m, k = m + 1 := ⟨k - 1, by omega⟩
        rw [ostiaryref04_Labels.l0, if_neg (by omega), if_pos h0, if_pos (by omega), hw, if_pos hz, if_neg (by rw [w64 (by omega) (by omega)]; exact hl)]
        have hr : ¬ lbRoot (s.extract i.toNat s.size) = true := fun h => hl (hroot.1 h).2
        have hb : lbBad (s.extract i.toNat s.size) = true := by unfold lbBad; rw [hb0, hz]; simp
        rw [if_neg hr, if_pos hb]
        simp
    have hr : ¬ lbRoot (s.extract i.toNat s.size) = true := fun h => hz (hroot.1 h).1
    rw [if_neg hr]
    by_cases h63 : bt s i > 63
    · refine ⟨[], fun k hk => ?_⟩
      obtain ⟨k, rfl⟩ : ∃ m, k = m + 1 := ⟨k - 1, by omega⟩
      have hb : lbBad (s.extract i.toNat s.size) = true := by unfold lbBad; rw [hb0]; simp [h63]
      rw [ostiaryref04_Labels.l0, if_neg (by omega), if_pos h0, if_pos (by omega), hw, if_neg hz, if_pos h63, if_pos hb]
      simp
    have hw1 : wrap64 (i + 1) = i + 1 := w64 (by omega) (by omega)
    have hw2 : wrap64 (i + 1 + bt s i) = i + 1 + bt s i := w64 (by omega) (by omega)
    by_cases hlong : i + 1 + bt s i > s.size
    · refine ⟨[], fun k hk => ?_⟩
      obtain ⟨k, rfl⟩ : ∃ m, k = m + 1 := ⟨k - 1, by omega⟩
      have hb : lbBad (s.extract i.toNat s.size) = true := by
        unfold lbBad; rw [hb0, hts]
        have : ((s.size - i.toNat : Nat) : Int) ≤ bt s i := by omega
        simp [this]
      rw [ostiaryref04_Labels.l0, if_neg (by omega), if_pos h0, if_pos (by omega), hw, if_neg hz, if_neg h63, hw1, hw2, if_pos hlong, if_pos hb]
      simp
    have hb : ¬ lbBad (s.extract i.toNat s.size) = true := by
      unfold lbBad; rw [hb0, hts]
      simp
      omega
    have hrest : lbRest (s.extract i.toNat s.size) = s.extract (i + 1 + bt s i).toNat s.size := by
      unfold lbRest
      rw [hb0]
      have := tail_rest s i.toNat (i + 1 + bt s i).toNat (by omega)
      rw [← this]; congr 1; omega
    rw [if_neg hb, hrest]
    obtain ⟨L, hL⟩ := ih (acc ++ [s.extract (i + 1).toNat (i + 1 + bt s i).toNat]) (i + 1 + bt s i) kk (by omega) (by omega) (by omega) (by omega) (by simp; omega)
    refine ⟨L, fun k hk => ?_⟩
    obtain ⟨k, rfl⟩ : ∃ m, k = m + 1 := ⟨k - 1, by omega⟩
    rw [ostiaryref04_Labels.l0, if_neg (by omega), if_pos h0, if_pos (by omega), hw, if_neg hz, if_neg h63, hw1, hw2, if_neg hlong, if_pos (by omega), if_pos (by omega), if_pos (by omega), if_pos (by omega), hL k (by omega), List.all_cons, Bool.true_and]

/-- The document's Check of a name tells the same. -/
theorem ref_check {s : ByteArray} (hs : s.size ≤ 2000000) : ∃ c, name_Check.f s = some c ∧ ∀ k, s.size + 1 ≤ k → ostiaryref04_Check.f k s = some c := by
  obtain ⟨L, hL⟩ := ref_labels hs (s.size + 1) [] 0 (s.size + 1) (by omega) (by omega) (by simp) (by simp) (by simp)
  have e : s.extract (0 : Int).toNat s.size = s := ByteArray.extract_zero_size
  rw [e] at hL
  refine ⟨if (lbEvs (s.size + 1) s).all (·.2) = true then (if 255 < s.size then 3 else 0) else 4, ?_, fun k hk => ?_⟩
  · unfold name_Check.f name_Labels.f
    rw [if_pos hs]
    by_cases h : (lbEvs (s.size + 1) s).all (·.2) = true
    · by_cases h2 : 255 < s.size
      · simp [h, h2]
      · simp [h, h2]
    · simp [h]
  · unfold ostiaryref04_Check.f ostiaryref04_Labels.f
    rw [hL k hk]; rfl
theorem check_small {s : ByteArray} (h : name_Check.f s = some 0) : s.size ≤ 255 := by
  obtain ⟨a, _, _, h3, rfl⟩ := check_form h
  rw [strOfNums_size]; simp; omega

end Go.Proofs.Ytjjbhpbmfpodeaa.PB
end
section
namespace Go.Proofs.Ytjjbhpbmfpodeaa.X
open Go.RowKit Go.Proofs.Ytjjbhpbmfpodeaa.PB Go.Proofs.YtjjbhpbmfpodeaaW.PrintWords Go.Proofs.YtjjbhpbmfpodeaaW.PrintLast Go.Proofs.YtjjbhpbmfpodeaaW.PrintMore
set_option linter.unusedVariables false
set_option linter.unusedSimpArgs false
attribute [local go_sem] Oper.semAt_some

theorem Full.lower {w : World} {base base' : Nat} {v : Value} {xs : List Int} (h : Full w base v xs) (hb : base' ≤ base) : Full w base' v xs := by
  rcases h with h | ⟨g, zs, rfl, h1, hg, hl⟩
  · exact .inl h
  · exact .inr ⟨g, zs, rfl, by omega, hg, hl⟩
theorem Full.far {w : World} {base : Nat} {v : Value} {xs : List Int} (h : Full w base v xs) {p : Addr} (hp : p.block < base) (u : Value) : Full (w.setCell p u) base v xs := by
  rcases h with h | ⟨g, zs, rfl, h1, hg, hl⟩
  · exact .inl h
  · exact .inr ⟨g, zs, rfl, h1, blk_far hg (by omega) u, hl⟩

end Go.Proofs.Ytjjbhpbmfpodeaa.X
end
section
namespace Go.Proofs.Ytjjbhpbmfpodeaa.X
open Go.RowKit Go.Maps Go.Proofs.Ytjjbhpbmfpodeaa.PB Go.Proofs.YtjjbhpbmfpodeaaW.PrintWords Go.Proofs.YtjjbhpbmfpodeaaW.PrintLast Go.Proofs.YtjjbhpbmfpodeaaW.PrintMore
set_option linter.unusedVariables false
set_option linter.unusedSimpArgs false
attribute [local go_sem] Oper.semAt_some

/-- A packer in block bp, with its tails in block bm. -/
structure Pk (w : World) (bp bm nn : Nat) (S : PS) : Prop where
  cell : w.heap[bp]? = some (.cells #[.map (some bm), .int .i64 S.E] 57 (0, 0))
  map : MapV strK w bm nn (fun s => (lookL S.L s).map (Value.int .i64)) S.L.length
  tails : Tails S.L
  end_ : 0 ≤ S.E ∧ S.E ≤ 70000

theorem grownBy_of_below {w w' : World} (h : Below w.heap.size w w') : w.grownBy w' none := ⟨h.os, h.tape, h.output, h.size, fun k hk _ => h.block k hk⟩
theorem below_of_grownBy {w w' : World} (h : w.grownBy w' none) : Below w.heap.size w w' := ⟨h.os, h.tape, h.output, h.size, fun k hk => h.block k hk (by simp)⟩
theorem grown_refl (w : World) (row : Option Nat) : w.grownBy w row := ⟨rfl, rfl, rfl, Nat.le_refl _, fun _ _ _ => rfl⟩

theorem Pk.ne {w : World} {bp bm nn : Nat} {S : PS} (h : Pk w bp bm nn S) : bp ≠ bm := by
  obtain ⟨D, ⟨es, cl, hb, _⟩, _⟩ := h.map
  rintro rfl
  have := h.cell
  rw [hb] at this
  cases this
theorem Pk.grown {w w' : World} {bp bm nn : Nat} {S : PS} (h : Pk w bp bm nn S) {row : Option Nat} (hg : w.grownBy w' row) (h1 : some bp ≠ row) (h2 : some bm ≠ row) : Pk w' bp bm nn S :=
  ⟨blk_grown h.cell hg h1, h.map.grown hg h2, h.tails, h.end_⟩
theorem Pk.below {w w' : World} {bp bm nn : Nat} {S : PS} (h : Pk w bp bm nn S) (hb : Below w.heap.size w w') : Pk w' bp bm nn S := h.grown (grownBy_of_below hb) (by simp) (by simp)

theorem zero3 (w : World) : (zeroValue 3).run Try.prog w = .ok (.int .i64 0) w := by
  have h : (Try.prog.info? 3).map (fun i => (i.zero, i.size, i.bytes)) = some (some (.int .i64 0), 1, 8) := by kernel_rfl
  obtain ⟨i, hi, hz, _⟩ := info_parts h
  simp [zeroValue, typeInfo, hi, hz, go_sem]

set_option maxHeartbeats 4000000 in
set_option maxRecDepth 100000 in
theorem wire_New.in_ (n : Nat) (hn : 1 ≤ n) (w : World) :
    CallsIn Fence.wide n Try.prog 49 #[] w fun e w' => e = .returned (.pointer (some ⟨w.heap.size + 1, 0, none⟩)) ∧ Pk w' (w.heap.size + 1) w.heap.size 0 ⟨[], 0⟩ ∧ Below w.heap.size w w' := by
  refine callsIn_of_wp Try.func49 rfl trivial ?_ rfl
  simp only [Try.ntmps49, List.size_toArray, List.length_cons, List.length_nil, Nat.reduceAdd, Nat.reduceSub, Array.replicate_succ, Array.replicate_zero, List.push_toArray, List.append_toArray, List.nil_append, List.cons_append]
  have hmm := @run_makeMap Try.prog
  gi_wp2
  go_ret
  refine ⟨rfl, ⟨?_, (MapV.made w).alloc _, Tails.nil, by simp⟩, below_alloc (below_alloc (Below.refl _ _) _) _⟩
  have := World.alloc_heap_new (w.alloc (Obj.map #[] 0)) (Obj.cells #[Value.map (some w.heap.size), Value.int IntKind.i64 0] 57)
  rwa [World.size_alloc] at this

set_option maxHeartbeats 4000000 in
set_option maxRecDepth 100000 in
theorem Packer_Known.in_ (n : Nat) (hn : 1 ≤ n) (w : World) {bp bm nn : Nat} {S : PS} (h : Pk w bp bm nn S) :
    CallsIn Fence.wide n Try.prog 52 #[.pointer (some ⟨bp, 0, none⟩)] w fun e w' => e = .returned (.int .i64 S.L.length) ∧ w' = w := by
  refine callsIn_of_wp Try.func52 rfl trivial ?_ rfl
  simp only [Try.ntmps52, List.size_toArray, List.length_cons, List.length_nil, Nat.reduceAdd, Nat.reduceSub, Array.replicate_succ, Array.replicate_zero, List.push_toArray, List.append_toArray, List.nil_append, List.cons_append]
  have h0 : w.cell? ⟨bp, 0, none⟩ = some (.map (some bm)) := (blk_cell h.cell 0).trans rfl
  have hl := h.map.len Try.underlying55
  gi_wp2
  go_ret
  exact ⟨rfl, rfl⟩

theorem upd_map {w : World} {b n sz : Nat} {fr : List (ByteArray × Int)} {T : ByteArray} {k : Int} (h : MapV strK w b n (fun t => if t = T then some (Value.int .i64 k) else (lookL fr t).map (Value.int .i64)) (if ((lookL fr T).map (Value.int .i64)).isSome then sz else sz + 1)) (hn : lookL fr T = none) :
    MapV strK w b n (fun s => (lookL (fr ++ [(T, k)]) s).map (Value.int .i64)) (sz + 1) := by
  rw [hn] at h
  refine MapV.congr h fun s => ?_
  rw [lookL_append, lookL_cons, lookL_nil]
  by_cases e : s = T
  · subst e; rw [if_pos rfl, hn, if_pos rfl]; rfl
  · rw [if_neg e, if_neg (fun h => e h.symm)]; cases lookL fr s <;> rfl

theorem pk_step {L : List (ByteArray × Int)} {a : Int} {k : Nat} {p r : List Int} {c : Int} {fr : List (ByteArray × Int)} (hn : lookL L (strOfNums (c :: r ++ [0])) = none) (hk : 0 < k) :
    pk L a k p (c :: r) fr = pk L a (k - 1) (p ++ c :: r.take c.toNat) (r.drop c.toNat) (if a + p.length < 16384 then fr ++ [(strOfNums (c :: r ++ [0]), a + p.length)] else fr) := by
  cases k with
  | zero => omega
  | succ k => rw [pk, hn]; rfl

theorem C_lit1 (W : World) (x : Int) : Kd.C (Kd.int .u8) (W.alloc (.cells #[.int .u8 x] 5)) (some ⟨W.heap.size, 0, none⟩) 1 [x] :=
  C_of_blk (xs := [x]) (blk_new W _) (by simp)
theorem or_ptr {k : Int} (h0 : 0 ≤ k) (h1 : k < 16384) : Go.bits .or .i64 49152 k = 49152 + k := by
  obtain ⟨m, rfl⟩ := Int.eq_ofNat_of_zero_le h0
  unfold Go.bits
  simp
  show IntKind.i64.wrap ((49152 ||| (m % 2 ^ 64) : Nat) : Int) = _
  rw [Nat.mod_eq_of_lt (by omega)]
  have h := Nat.two_pow_add_eq_or_of_lt (i := 14) (show m < 2 ^ 14 by omega) 3
  rw [show (49152 : Nat) = 2 ^ 14 * 3 from rfl, ← h, IntWalk.i64_in _ (by omega)]
  omega
theorem put_ptr {k : Int} (h0 : 0 ≤ k) (h1 : k < 16384) : octet_Put16.f (49152 + k) = some (ptr k, 0) := by
  rw [put16_ok (by omega) (by omega)]
  unfold bs16 ptr
  congr 3
  · omega
  · congr 1; omega
def isIn (s : ByteArray) (l : List ByteArray) : Bool := l.any (fun u => decide (u = s))
theorem isIn_iff {s : ByteArray} {l : List ByteArray} : isIn s l = true ↔ s ∈ l := by
  unfold isIn
  rw [List.any_eq_true]
  constructor
  · rintro ⟨u, hu, h⟩; have := of_decide_eq_true h; subst this; exact hu
  · intro h; exact ⟨s, h, by simp⟩
theorem nodup_len : ∀ {l m : List ByteArray}, l.Nodup → l ⊆ m → l.length ≤ m.length
  | [], m, _, _ => Nat.zero_le _
  | a :: l, m, h, hs => by
    obtain ⟨h1, h2⟩ := List.nodup_cons.1 h
    have h3 : l ⊆ m.filter (fun u => decide (u ≠ a)) := fun u hu => List.mem_filter.2 ⟨hs (List.mem_cons_of_mem _ hu), by
      have : u ≠ a := fun e => h1 (e ▸ hu)
      simp [this]⟩
    have h4 := nodup_len h2 h3
    have h5 : (m.filter (fun u => decide (u ≠ a))).length < m.length := List.length_filter_lt_length_iff_exists.2 ⟨a, hs (by simp), by simp⟩
    simp only [List.length_cons]; omega
theorem HWy_new {L : List (ByteArray × Int)} {p q : List Int} {fr : List (ByteArray × Int)} {x : ByteArray} {c : Value} (h : PkWay L p q fr) (hf : (lookL fr x).map (Value.int .i64) = some c) : lookL L x = none := by
  cases hl : lookL fr x with
  | none => rw [hl] at hf; cases hf
  | some k => exact h.new _ (lookL_mem hl)
theorem upd_done {w : World} {b n sz : Nat} {L fr : List (ByteArray × Int)} {done : List ByteArray} {x : ByteArray} {c : Value}
    (h : MapV strK w b (n + done.length + 1) (fun t => if t = x then some c else (if isIn t done = true then lookL fr t else lookL L t).map (Value.int .i64)) (if ((if isIn x done = true then lookL fr x else lookL L x).map (Value.int .i64)).isSome then sz + done.length else sz + done.length + 1))
    (hx : x ∉ done) (hc : (lookL fr x).map (Value.int .i64) = some c) (hn : lookL L x = none) :
    MapV strK w b (n + (x :: done).length) (fun s => (if isIn s (x :: done) = true then lookL fr s else lookL L s).map (Value.int .i64)) (sz + (x :: done).length) := by
  rw [if_neg (fun h => hx (isIn_iff.1 h)), hn] at h
  refine MapV.congr h fun s => ?_
  by_cases e : s = x
  · subst e; rw [if_pos rfl, if_pos (isIn_iff.2 (by simp)), hc]
  · rw [if_neg e]
    congr 1
    by_cases hd : s ∈ done
    · rw [if_pos (isIn_iff.2 hd), if_pos (isIn_iff.2 (by simp [hd]))]
    · rw [if_neg (fun h => hd (isIn_iff.1 h)), if_neg (fun h => by have := isIn_iff.1 h; simp [hd, e] at this)]
theorem done_step {fr : List (ByteArray × Int)} {left : ByteArray → Bool} {done : List ByteArray} {x : ByteArray} {c : Value} (h : ∀ s, s ∈ done ↔ ((lookL fr s).isSome = true ∧ left s = false)) (hc : (lookL fr x).map (Value.int .i64) = some c) :
    ∀ s, s ∈ x :: done ↔ ((lookL fr s).isSome = true ∧ (left s && !(decide (s = x))) = false) := fun s => by
  rw [List.mem_cons, h s]
  by_cases e : s = x
  · subst e
    cases hl : lookL fr s with
    | none => rw [hl] at hc; cases hc
    | some k => simp
  · simp [e]
theorem done_len {fr : List (ByteArray × Int)} {done : List ByteArray} (hd : done.Nodup) (h : ∀ s ∈ done, (lookL fr s).isSome = true) : done.length ≤ fr.length := by
  have hs : done ⊆ fr.map (·.1) := fun s hs => by
    have := h s hs
    cases hl : lookL fr s with
    | none => rw [hl] at this; cases this
    | some k => exact List.mem_map.2 ⟨_, lookL_mem hl, rfl⟩
  have := nodup_len hd hs
  simpa using this
theorem done_all {fr : List (ByteArray × Int)} {done : List ByteArray} (hf : (fr.map (·.1)).Nodup) (h : ∀ s, (lookL fr s).isSome = true → s ∈ done) : fr.length ≤ done.length := by
  have hs : fr.map (·.1) ⊆ done := fun s hs => by
    refine h s ?_
    cases hl : lookL fr s with
    | none => exact absurd hs (lookL_none.1 hl)
    | some k => rfl
  have := nodup_len hf hs
  simpa using this
theorem pk_end {wr : World} {bp bm nn : Nat} {S : PS} {R : List Int × List (ByteArray × Int)} {fr : List (ByteArray × Int)} {done : List ByteArray} {p q : List Int} {at_ : Int} {wz : World} (hc : wr.heap[bp]? = some (.cells #[.map (some bm), .int .i64 S.E] 57 (0, 0)))
    (hm : MapV strK wr bm (nn + done.length) (fun s => (if isIn s done = true then lookL fr s else lookL S.L s).map (Value.int .i64)) (S.L.length + done.length)) (hd : ∀ s, s ∈ done ↔ (lookL fr s).isSome = true) (hdn : done.Nodup) (hP : Pk wz bp bm nn S)
    (hW : PkWay S.L p q fr) (hR : R.1.length ≤ 256) (hRF : R.2 = fr) (h0 : 0 ≤ at_) (h1 : at_ ≤ 65535) : Pk (wr.setCell ⟨bp, 1, none⟩ (.int .i64 (at_ + R.1.length))) bp bm (nn + 256) ⟨S.L ++ R.2, at_ + R.1.length⟩ := by
  have hlen : done.length = fr.length := Nat.le_antisymm (done_len hdn (fun s hs => (hd s).1 hs)) (done_all hW.tails.once (fun s hs => (hd s).2 hs))
  subst hRF
  refine ⟨blk_put hc 1 _ rfl, ?_, hP.tails.append hW.tails hW.new, by show 0 ≤ at_ + (R.1.length : Int) ∧ at_ + (R.1.length : Int) ≤ 70000; omega⟩
  have h2 := (hm.setCell (a := ⟨bp, 1, none⟩) (fun e => hP.ne e.symm) (.int .i64 (at_ + R.1.length))).mono (n' := nn + 256) (by have := hW.few; have := hW.len; omega)
  rw [List.length_append, ← hlen]
  refine h2.congr fun s => ?_
  congr 1
  rw [lookL_append]
  by_cases hs : s ∈ done
  · rw [if_pos (isIn_iff.2 hs)]
    cases hl : lookL R.2 s with
    | none => have := (hd s).1 hs; rw [hl] at this; cases this
    | some k => rw [hW.new _ (lookL_mem hl)]; rfl
  · rw [if_neg (fun h => hs (isIn_iff.1 h))]
    cases hl : lookL R.2 s with
    | none => cases lookL S.L s <;> rfl
    | some k => exact absurd ((hd s).2 (by rw [hl]; rfl)) hs

set_option maxHeartbeats 8000000 in
set_option maxRecDepth 100000 in
theorem Packer_Name.main (n : Nat) (hn : 3 ≤ n) (w : World) {bp bm nn : Nat} {S : PS} (h : Pk w bp bm nn S) (hnn : nn ≤ 1000000) (at_ : Int) (h0 : 0 ≤ at_) (h1 : at_ ≤ 65535) (h2 : S.E ≤ at_) (s : ByteArray) (hc : name_Check.f s = some 0)
    (a : List Int) (ha : Lab a) (hab : bytesB a = true) (hal : a.length ≤ 254) (hs : s = strOfNums (a ++ [0])) (R : List Int × List (ByteArray × Int)) (hR : pk S.L at_ 256 [] a [] = R) :
    CallsIn Fence.wide n Try.prog 51 #[.pointer (some ⟨bp, 0, none⟩), .int .i64 at_, .string s] w fun e w' => ∃ v w1, e = .returned (.tuple #[v, .int .i64 0]) ∧ Full w' w.heap.size v R.1 ∧ Pk w' bp bm (nn + 256) ⟨S.L ++ R.2, at_ + R.1.length⟩ ∧ w.grownBy w1 (some bm) ∧ w1.grownBy w' (some bp) := by
  refine callsIn_of_wp Try.func51 rfl trivial ?_ rfl
  simp only [Try.ntmps51, List.size_toArray, List.length_cons, List.length_nil, Nat.reduceAdd, Nat.reduceSub, Array.replicate_succ, Array.replicate_zero, List.push_toArray, List.append_toArray, List.nil_append, List.cons_append]
  have hmm := @run_makeMap Try.prog
  have hm1 : ∀ W, (binOp BinOp.eql 55 (.map (some bm)) (.map none)).run Try.prog W = .ok (.bool false) W := fun W => by
    first | rfl | (simp [binOp, go_sem, Try.underlying55] <;> done) | (unfold binOp; simp [go_sem, Try.underlying55]; rfl)
  have c0 : w.cell? ⟨bp, 0, none⟩ = some (.map (some bm)) := (blk_cell h.cell 0).trans rfl
  have HPk := Aside0.mk h
  have d1 : decide (at_ < 0) = false := decide_eq_false (by omega)
  have d2 : decide ((65535 : Int) < at_) = false := decide_eq_false (by omega)
  have d3 : decide (at_ < S.E) = false := decide_eq_false (by omega)
  have HA := Aside0.mk h0
  have HB := Aside0.mk h1
  have HS := Aside0.mk hs
  have HL := Aside0.mk (show PkWay S.L [] a [] from ⟨ha, hab, by simpa using hal, Nat.le_refl _, Tails.nil, by simp, by simp⟩)
  have HR := Aside0.mk hR
  have HN := Aside0.mk hnn
  have HAL := Aside0.mk hal
  clear h hs h0 h1 h2 hR ha hab hal hnn
  gi_wp2_with (first
    | (first | refine ⟨trivial, fun _ => by omega, ?_⟩ | refine ⟨trivial, ?_⟩); refine (callsIn_wide.2 (name_Check.calls s 0 _ hc)).mono ?_; rintro e w1 ⟨rfl, hb1⟩; have HP1 := Aside0.mk (HPk.out.below hb1); have HW1 := Aside0.mk (grownBy_of_below hb1); have c1 := (blk_cell HP1.out.cell 1).trans rfl; clear hb1)
  gi_loopw [9, 11] (fun o t wr => ∃ (p q : List Int) (fr : List (ByteArray × Int)) (k : Nat), t = .string (strOfNums (q ++ [0])) ∧ Aside0 (Full wr (w1.heap.size + 1) o p) ∧ Aside0 (PkWay S.L p q fr) ∧ Aside0 (pk S.L at_ k p q fr = R ∧ q.length < k) ∧
      Aside0 (MapV strK wr w1.heap.size fr.length (fun s => (lookL fr s).map (Value.int .i64)) fr.length) ∧ Aside0 (Pk wr bp bm nn S) ∧ Aside0 (w.grownBy wr none))
    (fun _ t _ => match t with | .string s => s.size | _ => 0)
  case atStart =>
    refine ⟨[], a, [], 256, by rw [HS.out], ⟨.inl ⟨rfl, rfl⟩⟩, HL, ⟨HR.out, by have := HAL.out; omega⟩, ⟨MapV.made w1⟩, ⟨HP1.out.below (below_alloc (Below.refl _ _) _)⟩, ⟨grownBy_of_below (below_alloc (below_of_grownBy HW1.out) _)⟩⟩
  case round =>
    obtain ⟨p, q, fr, k, rfl, HF, HWy, HK, HM, HPr, HG⟩ := hrel
    obtain ⟨A, cc, rfl, hcc, _⟩ := HF.out.reads
    have HPL : Aside0 (p.length + q.length ≤ 254) := ⟨HWy.out.len⟩
    obtain ⟨T, hT⟩ : ∃ T, T = strOfNums (q ++ [0]) := ⟨_, rfl⟩
    have hbt : bt T 0 = rd (q ++ [0]) 0 := by rw [hT]; exact bt_str (bytesB_append.2 ⟨(bytesB_append.1 HWy.out.bytes).2, by decide⟩) 0
    have hTs : T.size = q.length + 1 := by rw [hT, strOfNums_size]; simp
    have hix := str_ix T 0 (by omega) (by omega)
    rw [hbt] at hix
    have c0 := (blk_cell HPr.out.cell 0).trans rfl
    have HTs := Aside0.mk hTs
    rw [← hT]
    have HT := Aside0.mk hT
    clear hT hTs hcc c1 hbt
    by_cases hq : q = []
    · subst hq
      have HR1 : Aside0 (R = (p ++ [0], fr)) := ⟨by have := HK.out.1; have h2 := HK.out.2; cases k with | zero => omega | succ k => rw [← this]; rfl⟩
      have HRL : Aside0 (R.1.length ≤ 256) := ⟨by rw [HR1.out]; have := HPL.out; simp at this ⊢; omega⟩
      have HRF : Aside0 (R.2 = fr) := ⟨by rw [HR1.out]⟩
      have HFL : Aside0 (fr.length ≤ 254) := ⟨by have := HWy.out.few; have := HPL.out; omega⟩
      gi_wp2_with (first
        | (gi_at_builtin; refine wpListIn_append_full _ rfl _ _ rfl (w1.heap.size + 1) _ p rfl (HF.out.below (below_alloc (Below.refl _ _) (Obj.cells #[.int .u8 0] 5))) (some ⟨wr.heap.size, 0, none⟩) 1 1 [0] rfl (C_lit1 wr 0) (by have := HPL.out; omega) (by have := HM.out.lt; simp; omega) ?_; intro v' w3 hf3 hgA; have HM3 := Aside0.mk ((HM.out.alloc _).grown hgA (fun e => by have := (HF.out.base_ _ e.symm).1; omega)); have HP3 := Aside0.mk ((HPr.out.below (below_alloc (Below.refl _ _) _)).grown hgA (fun e => by have := (HF.out.base_ _ e.symm).1; have := (blk_lt HP1.out.cell); omega) (fun e => by have := (HF.out.base_ _ e.symm).1; have := HP1.out.map.lt; omega)); have HG3 := Aside0.mk ((grownBy_of_below (below_alloc (below_of_grownBy HG.out) _)).andThen hgA (fun j e => by have := (HF.out.base_ _ e).1; have := HW1.out.size; omega)); have HF3 : Aside0 (Full w3 (w1.heap.size + 1) v' R.1) := ⟨by rw [HR1.out]; exact hf3⟩; obtain ⟨A3, c3, rfl, hc3, _⟩ := HF3.out.reads; have HC3 := Aside0.mk hc3; clear hc3 hf3 hgA)
        | (gi_at_range; refine wpListIn_range_V (K := strK) _ rfl _ 55 3 rfl Try.underlying55 w1.heap.size fr.length _ fr.length rfl HM3.out ?_; intro w4 hr4 hg4 hs4; have HR4 := Aside0.mk hr4; have HF4 := Aside0.mk (HF3.out.grown hg4 (by cases A3 <;> simp [Value.ownBlock])); have HP4 := Aside0.mk (HP3.out.grown hg4 (by simp) (by simp)); have HG4 := Aside0.mk (HG3.out.andThen hg4 (fun j e => by cases e)); clear hr4 hg4 hs4))

      (try go_frame)
      gi_loopw [17] (fun _ wr => ∃ (left : ByteArray → Bool) (cnt : Nat) (done : List ByteArray), Aside0 (RangeV strK wr w1.heap.size w3.heap.size fr.length (fun s => (lookL fr s).map (Value.int .i64)) left cnt) ∧ Aside0 (done.Nodup ∧ ∀ s, s ∈ done ↔ ((lookL fr s).isSome = true ∧ left s = false)) ∧
          Aside0 (MapV strK wr bm (nn + done.length) (fun s => (if isIn s done = true then lookL fr s else lookL S.L s).map (Value.int .i64)) (S.L.length + done.length)) ∧ Aside0 (wr.heap[bp]? = some (.cells #[.map (some bm), .int .i64 S.E] 57 (0, 0))) ∧ Aside0 (Full wr (w1.heap.size + 1) (.slice A3 R.1.length c3) R.1) ∧ Aside0 (w.grownBy wr (some bm)))
        (fun _ wr => wr.rangeLeft w1.heap.size w3.heap.size)
      case atStart =>
        refine ⟨_, _, [], HR4, ⟨by simp, fun s => ?_⟩, ⟨HP4.out.map.congr (fun s => rfl)⟩, ⟨HP4.out.cell⟩, HF4, ⟨HG4.out.but _⟩⟩
        cases lookL fr s <;> simp
      case round =>
        rename_i wq
        obtain ⟨left, cnt, done, HR5, HD5, HM5, HC5, HF5, HG5⟩ := hrel
        have c5 := (blk_cell HC5.out 0).trans rfl
        gi_wp2_with (gi_at_next; refine wpListIn_next_V (K := strK) _ rfl _ rfl w1.heap.size w3.heap.size fr.length _ left cnt rfl HR5.out ?_ ?_)
        · intro hl
          have HLF := Aside0.mk hl
          clear hl
          have hw9 : IntKind.i64.wrap (at_ + R.1.length) = at_ + R.1.length := IntWalk.i64_in _ (by have := HA.out; have := HB.out; have := HRL.out; omega)
          have hz1 := blk_frozen HC5.out 1
          have c51 := (blk_cell HC5.out 1).trans rfl
          gi_wp2
          go_ret2
          refine ⟨_, _, rfl, ((HF5.out.far (p := ⟨bp, 1, none⟩) (by have := blk_lt HP1.out.cell; show bp < _; omega) _).lower (by have := HW1.out.size; omega)), pk_end HC5.out HM5.out (fun s => by rw [HD5.out.2 s, HLF.out s]; simp) HD5.out.1 HPr.out HWy.out HRL.out HRF.out HA.out HB.out, HG5.out, grownBy_put (grown_refl _ _) _ _⟩
        · intro x cx w6 cnt6 hx hlx kx hkx hcx hr6 hlt hg6 hs6 hen
          have hfx : (lookL fr x).map (Value.int .i64) = some cx := by rw [hkx, ← hcx]; rfl
          clear hkx hcx
          have HX := Aside0.mk hx
          have HR6 := Aside0.mk hr6
          have HFX : Aside0 ((lookL fr x).map (Value.int .i64) = some cx) := ⟨hfx⟩
          have HLX := Aside0.mk hlx
          have HLT := Aside0.mk hlt
          have HM6 := Aside0.mk (HM5.out.grown hg6 (fun e => by injection e with e; have := HP3.out.map.lt; omega))
          have hc6 := blk_grown HC5.out hg6 (fun e => by injection e with e; have := blk_lt HP3.out.cell; omega)
          have HC6 := Aside0.mk hc6
          have HF6 := Aside0.mk (HF5.out.grown hg6 (.inr (fun e => by have := (HF3.out.base_ _ e).2; omega)))
          have HG6 := Aside0.mk (HG5.out.andThen hg6 (fun j e => by injection e with e; have := HG3.out.size; omega))
          have HMB := Aside0.mk (done_len HD5.out.1 (fun s hs => (HD5.out.2 s).1 hs |>.1))
          have c6 := (blk_cell hc6 0).trans rfl
          clear hx hr6 hfx hlx hlt hg6 hc6
          gi_wp2_with (gi_at_mapUpdate; refine wpListIn_mapUpdate_V (K := strK) _ rfl _ _ _ 55 3 rfl Try.underlying55 bm (nn + done.length) _ _ rfl HM6.out (by have := HN.out; have := HMB.out; have := HFL.out; rw [maxLen_eq]; omega) x cx rfl rfl HX.out ?_; intro w7 hm7 hg7; have HM7 := Aside0.mk (upd_done hm7 (fun h => by have := ((HD5.out.2 x).1 h).2; rw [HLX.out] at this; cases this) HFX.out (HWy_new HWy.out HFX.out)); have HR7 := Aside0.mk (HR6.out.grown hg7 (fun e => by injection e with e; have := HP1.out.map.lt; omega) (fun e => by injection e with e; have := HP3.out.map.lt; omega)); have HC7 := Aside0.mk (blk_grown HC6.out hg7 (fun e => by injection e with e; exact HP1.out.ne e)); have HF7 := Aside0.mk (HF6.out.grown hg7 (.inr (fun e => by have := (HF3.out.base_ _ e).1; have := HP1.out.map.lt; omega))); have HG7 := Aside0.mk (HG6.out.andThen hg7 (fun j e => .inr e)); clear hm7 hg7)
          refine ⟨⟨_, _, _, _, _, _, _, _, _, _, _, _, _, ⟨_, cnt6, x :: done, HR7, ⟨?_, ?_⟩, HM7, HC7, HF7, HG7⟩, rfl⟩, ?_⟩
          · exact List.nodup_cons.2 ⟨fun h => (by have := ((HD5.out.2 x).1 h).2; rw [HLX.out] at this; cases this), HD5.out.1⟩
          · exact done_step HD5.out.2 HFX.out
          · rw [HR7.out.left_eq, HR5.out.left_eq]; exact HLT.out
    obtain ⟨c, r, rfl⟩ := List.exists_cons_of_ne_nil hq
    clear hq
    have hrd : rd (c :: r ++ [0]) 0 = c := rfl
    rw [hrd] at hix
    clear hrd
    cases hlk : lookL S.L T with
    | some t0 =>
      have hlook := HPr.out.map.look Try.underlying55 (zero3 wr) (show strK.ok T by show T.size ≤ maxLen; have := HTs.out; have := HPL.out; rw [maxLen_eq]; omega)
      rw [hlk] at hlook
      have hlook2 : (Instr.lookup 55 (.map (some bm)) (.string T) true).run Try.prog wr = .ok (.tuple #[.int .i64 t0, .bool true]) wr := hlook
      clear hlook
      have hz : (c == 0) = false := beq_eq_false_iff_ne.2 (by have h := HWy.out.lab; cases h; omega)
      have ht0 := HPr.out.tails.low _ (lookL_mem hlk)
      have hor := or_ptr ht0.1 ht0.2
      have HPT : Aside0 (octet_Put16.f (49152 + t0) = some (ptr t0, 0)) := ⟨put_ptr ht0.1 ht0.2⟩
      have HR1 : Aside0 (R = (p ++ ptr t0, fr)) := ⟨by have := HK.out.1; have h2 := HK.out.2; cases k with | zero => omega | succ k => rw [← this]; rw [HT.out] at hlk; rw [pk, hlk]⟩
      have HRL : Aside0 (R.1.length ≤ 256) := ⟨by rw [HR1.out]; have := HPL.out; simp [ptr] at this ⊢; omega⟩
      have HRF : Aside0 (R.2 = fr) := ⟨by rw [HR1.out]⟩
      have HFL : Aside0 (fr.length ≤ 254) := ⟨by have := HWy.out.few; have := HPL.out; omega⟩
      clear ht0 hlk
      gi_wp2_with (first
        | (first | refine ⟨trivial, fun _ => by omega, ?_⟩ | refine ⟨trivial, ?_⟩); refine (callsIn_wide.2 (octet_Put16.calls (49152 + t0) (ptr t0) 0 _ HPT.out)).mono ?_; rintro e w2 ⟨v2, rfl, hd2, hb2⟩; obtain ⟨A2, c2, rfl, hc2, hC2⟩ := Kd.R_reads hd2; have HCC := Aside0.mk hC2; have HM2 := Aside0.mk (HM.out.below hb2); have HP2 := Aside0.mk (HPr.out.below hb2); have HF2 := Aside0.mk (HF.out.below hb2); have HG2 := Aside0.mk (HG.out.andThen (grownBy_of_below hb2) (fun j e => by cases e)); clear hd2 hb2 hC2 hc2
        | (gi_at_builtin; refine wpListIn_append_full _ rfl _ _ rfl (w1.heap.size + 1) _ p rfl HF2.out A2 2 c2 (ptr t0) rfl HCC.out (by have := HPL.out; omega) (by have := HM2.out.lt; omega) ?_; intro v' w3 hf3 hgA; have HM3 := Aside0.mk (HM2.out.grown hgA (fun e => by have := (HF.out.base_ _ e.symm).1; omega)); have HP3 := Aside0.mk (HP2.out.grown hgA (fun e => by have := (HF.out.base_ _ e.symm).1; have := (blk_lt HP1.out.cell); omega) (fun e => by have := (HF.out.base_ _ e.symm).1; have := HP1.out.map.lt; omega)); have HG3 := Aside0.mk (HG2.out.andThen hgA (fun j e => by have := (HF.out.base_ _ e).1; have := HW1.out.size; omega)); have HF3 : Aside0 (Full w3 (w1.heap.size + 1) v' R.1) := ⟨by rw [HR1.out]; exact hf3⟩; obtain ⟨A3, c3, rfl, hc3, _⟩ := HF3.out.reads; have HC3 := Aside0.mk hc3; clear hc3 hf3 hgA)
        | (gi_at_range; refine wpListIn_range_V (K := strK) _ rfl _ 55 3 rfl Try.underlying55 w1.heap.size fr.length _ fr.length rfl HM3.out ?_; intro w4 hr4 hg4 hs4; have HR4 := Aside0.mk hr4; have HF4 := Aside0.mk (HF3.out.grown hg4 (by cases A3 <;> simp [Value.ownBlock])); have HP4 := Aside0.mk (HP3.out.grown hg4 (by simp) (by simp)); have HG4 := Aside0.mk (HG3.out.andThen hg4 (fun j e => by cases e)); clear hr4 hg4 hs4))

      (try go_frame)
      gi_loopw [17] (fun _ wr => ∃ (left : ByteArray → Bool) (cnt : Nat) (done : List ByteArray), Aside0 (RangeV strK wr w1.heap.size w3.heap.size fr.length (fun s => (lookL fr s).map (Value.int .i64)) left cnt) ∧ Aside0 (done.Nodup ∧ ∀ s, s ∈ done ↔ ((lookL fr s).isSome = true ∧ left s = false)) ∧
          Aside0 (MapV strK wr bm (nn + done.length) (fun s => (if isIn s done = true then lookL fr s else lookL S.L s).map (Value.int .i64)) (S.L.length + done.length)) ∧ Aside0 (wr.heap[bp]? = some (.cells #[.map (some bm), .int .i64 S.E] 57 (0, 0))) ∧ Aside0 (Full wr (w1.heap.size + 1) (.slice A3 R.1.length c3) R.1) ∧ Aside0 (w.grownBy wr (some bm)))
        (fun _ wr => wr.rangeLeft w1.heap.size w3.heap.size)
      case atStart =>
        refine ⟨_, _, [], HR4, ⟨by simp, fun s => ?_⟩, ⟨HP4.out.map.congr (fun s => rfl)⟩, ⟨HP4.out.cell⟩, HF4, ⟨HG4.out.but _⟩⟩
        cases lookL fr s <;> simp
      case round =>
        rename_i wq
        obtain ⟨left, cnt, done, HR5, HD5, HM5, HC5, HF5, HG5⟩ := hrel
        have c5 := (blk_cell HC5.out 0).trans rfl
        gi_wp2_with (gi_at_next; refine wpListIn_next_V (K := strK) _ rfl _ rfl w1.heap.size w3.heap.size fr.length _ left cnt rfl HR5.out ?_ ?_)
        · intro hl
          have HLF := Aside0.mk hl
          clear hl
          have hw9 : IntKind.i64.wrap (at_ + R.1.length) = at_ + R.1.length := IntWalk.i64_in _ (by have := HA.out; have := HB.out; have := HRL.out; omega)
          have hz1 := blk_frozen HC5.out 1
          have c51 := (blk_cell HC5.out 1).trans rfl
          gi_wp2
          go_ret2
          refine ⟨_, _, rfl, ((HF5.out.far (p := ⟨bp, 1, none⟩) (by have := blk_lt HP1.out.cell; show bp < _; omega) _).lower (by have := HW1.out.size; omega)), pk_end HC5.out HM5.out (fun s => by rw [HD5.out.2 s, HLF.out s]; simp) HD5.out.1 HPr.out HWy.out HRL.out HRF.out HA.out HB.out, HG5.out, grownBy_put (grown_refl _ _) _ _⟩
        · intro x cx w6 cnt6 hx hlx kx hkx hcx hr6 hlt hg6 hs6 hen
          have hfx : (lookL fr x).map (Value.int .i64) = some cx := by rw [hkx, ← hcx]; rfl
          clear hkx hcx
          have HX := Aside0.mk hx
          have HR6 := Aside0.mk hr6
          have HFX : Aside0 ((lookL fr x).map (Value.int .i64) = some cx) := ⟨hfx⟩
          have HLX := Aside0.mk hlx
          have HLT := Aside0.mk hlt
          have HM6 := Aside0.mk (HM5.out.grown hg6 (fun e => by injection e with e; have := HP3.out.map.lt; omega))
          have hc6 := blk_grown HC5.out hg6 (fun e => by injection e with e; have := blk_lt HP3.out.cell; omega)
          have HC6 := Aside0.mk hc6
          have HF6 := Aside0.mk (HF5.out.grown hg6 (.inr (fun e => by have := (HF3.out.base_ _ e).2; omega)))
          have HG6 := Aside0.mk (HG5.out.andThen hg6 (fun j e => by injection e with e; have := HG3.out.size; omega))
          have HMB := Aside0.mk (done_len HD5.out.1 (fun s hs => (HD5.out.2 s).1 hs |>.1))
          have c6 := (blk_cell hc6 0).trans rfl
          clear hx hr6 hfx hlx hlt hg6 hc6
          gi_wp2_with (gi_at_mapUpdate; refine wpListIn_mapUpdate_V (K := strK) _ rfl _ _ _ 55 3 rfl Try.underlying55 bm (nn + done.length) _ _ rfl HM6.out (by have := HN.out; have := HMB.out; have := HFL.out; rw [maxLen_eq]; omega) x cx rfl rfl HX.out ?_; intro w7 hm7 hg7; have HM7 := Aside0.mk (upd_done hm7 (fun h => by have := ((HD5.out.2 x).1 h).2; rw [HLX.out] at this; cases this) HFX.out (HWy_new HWy.out HFX.out)); have HR7 := Aside0.mk (HR6.out.grown hg7 (fun e => by injection e with e; have := HP1.out.map.lt; omega) (fun e => by injection e with e; have := HP3.out.map.lt; omega)); have HC7 := Aside0.mk (blk_grown HC6.out hg7 (fun e => by injection e with e; exact HP1.out.ne e)); have HF7 := Aside0.mk (HF6.out.grown hg7 (.inr (fun e => by have := (HF3.out.base_ _ e).1; have := HP1.out.map.lt; omega))); have HG7 := Aside0.mk (HG6.out.andThen hg7 (fun j e => .inr e)); clear hm7 hg7)
          refine ⟨⟨_, _, _, _, _, _, _, _, _, _, _, _, _, ⟨_, cnt6, x :: done, HR7, ⟨?_, ?_⟩, HM7, HC7, HF7, HG7⟩, rfl⟩, ?_⟩
          · exact List.nodup_cons.2 ⟨fun h => (by have := ((HD5.out.2 x).1 h).2; rw [HLX.out] at this; cases this), HD5.out.1⟩
          · exact done_step HD5.out.2 HFX.out
          · rw [HR7.out.left_eq, HR5.out.left_eq]; exact HLT.out
    | none =>
      obtain ⟨hc1, hc2, hc3, hstep⟩ := HWy.out.step HA.out (by rw [← HT.out]; exact hlk)
      have hlook := HPr.out.map.look Try.underlying55 (zero3 wr) (show strK.ok T by show T.size ≤ maxLen; have := HTs.out; have := HPL.out; rw [maxLen_eq]; omega)
      rw [hlk] at hlook
      have hlook2 : (Instr.lookup 55 (.map (some bm)) (.string T) true).run Try.prog wr = .ok (.tuple #[.int .i64 0, .bool false]) wr := hlook
      clear hlook
      have hz : (c == 0) = false := beq_eq_false_iff_ne.2 (by omega)
      have hw0 : IntKind.i64.wrap c = c := IntWalk.i64_in _ (by omega)
      have hw1 : IntKind.i64.wrap (1 + c) = 1 + c := IntWalk.i64_in _ (by omega)
      have hw2 : IntKind.i64.wrap (at_ + p.length) = at_ + p.length := IntWalk.i64_in _ (by have := HA.out; have := HB.out; have := HPL.out; omega)
      have hs1 := str_to T (1 + c) (by omega) (by have := HTs.out; simp only [List.length_cons] at this; omega)
      have hs2 := str_from T (1 + c) (by omega) (by have := HTs.out; simp only [List.length_cons] at this; omega)
      obtain ⟨T1, hT1⟩ : ∃ T1, T1 = T.extract 0 (1 + c).toNat := ⟨_, rfl⟩
      obtain ⟨T2, hT2⟩ : ∃ T2, T2 = T.extract (1 + c).toNat T.size := ⟨_, rfl⟩
      rw [← hT1] at hs1
      rw [← hT2] at hs2
      have hto : (1 + c).toNat = c.toNat + 1 := by omega
      have HT1 : Aside0 (bytesOf T1 = c :: r.take c.toNat) := ⟨by
        rw [hT1, HT.out, str_extract, str_bytes (bytesB_take _ (bytesB_drop _ (bytesB_append.2 ⟨(bytesB_append.1 HWy.out.bytes).2, by decide⟩))), hto]
        simp only [List.drop_zero, Nat.sub_zero, List.cons_append, List.take_succ_cons]
        rw [List.take_append_of_le_length hc3]⟩
      have HT2 : Aside0 (T2 = strOfNums (r.drop c.toNat ++ [0])) := ⟨by
        rw [hT2, HT.out, str_extract, hto, List.cons_append, List.drop_succ_cons, List.take_of_length_le (by rw [strOfNums_size]; simp), List.drop_append_of_le_length hc3]⟩
      have HST := Aside0.mk hstep
      have HLK := Aside0.mk hlk
      have HC := Aside0.mk hc1
      have HL1 : Aside0 (T1.size ≤ 254) := ⟨by
        rw [← bytesOf_len, HT1.out, List.length_cons, List.length_take]; have := HPL.out; simp only [List.length_cons] at this; omega⟩
      have HFL : Aside0 (fr.length < maxLen) := ⟨by rw [maxLen_eq]; have := HWy.out.few; have := HPL.out; omega⟩
      have HTK : Aside0 (strK.ok T) := ⟨by show T.size ≤ maxLen; have := HTs.out; have := HPL.out; rw [maxLen_eq]; omega⟩
      have HFN : Aside0 (lookL fr T = none) := ⟨by rw [HT.out]; exact HWy.out.fresh⟩
      clear hT1 hT2 hstep hc1 hc2 hc3 hlk
      by_cases hlow : at_ + (p.length : Int) < 16384
      · have d4 : decide (at_ + (p.length : Int) < 16384) = true := decide_eq_true hlow
        have HLO := Aside0.mk hlow
        clear hlow
        gi_wp2_with (first
          | (gi_at_mapUpdate; refine wpListIn_mapUpdate_V (K := strK) _ rfl _ _ _ 55 3 rfl Try.underlying55 w1.heap.size fr.length _ _ rfl HM.out HFL.out T (.int .i64 (at_ + p.length)) rfl rfl HTK.out ?_; intro w2 hm2 hg2; have HM2 := Aside0.mk (upd_map hm2 HFN.out); have HF2 := Aside0.mk (HF.out.grown hg2 (.inr (fun e => by have := (HF.out.base_ _ e).1; omega))); have HP2 := Aside0.mk (HPr.out.grown hg2 (fun e => by injection e with e; have := (blk_lt HP1.out.cell); omega) (fun e => by injection e with e; have := HP1.out.map.lt; omega)); have HG2 := Aside0.mk (HG.out.andThen hg2 (fun j e => by injection e with e; have := HW1.out.size; omega)); clear hm2 hg2)
          | (gi_at_builtin; refine wpListIn_append_full_str _ rfl _ _ rfl (w1.heap.size + 1) _ p rfl HF2.out T1 rfl (by have := HL1.out; have := HPL.out; omega) (by have := HM2.out.lt; omega) ?_; intro v' w3 hf3 hg3; have HM3 := Aside0.mk (HM2.out.grown hg3 (fun e => by have := (HF2.out.base_ _ e.symm).1; omega)); have HP3 := Aside0.mk (HP2.out.grown hg3 (fun e => by have := (HF2.out.base_ _ e.symm).1; have := (blk_lt HP1.out.cell); omega) (fun e => by have := (HF2.out.base_ _ e.symm).1; have := HP1.out.map.lt; omega)); have HG3 := Aside0.mk (HG2.out.andThen hg3 (fun j e => by have := (HF2.out.base_ _ e).1; have := HW1.out.size; omega)); rw [HT1.out] at hf3; have HF3 := Aside0.mk hf3; clear hf3 hg3))
        refine ⟨⟨p ++ c :: r.take c.toNat, r.drop c.toNat, fr ++ [(T, at_ + p.length)], k - 1, by rw [HT2.out], HF3, ⟨?_⟩, ⟨?_⟩, ⟨?_⟩, HP3, HG3⟩, ?_⟩
        · have := HST.out; rw [if_pos HLO.out, ← HT.out] at this; exact this
        · have h1 := pk_step (a := at_) (p := p) (fr := fr) (show lookL S.L (strOfNums (c :: r ++ [0])) = none by rw [← HT.out]; exact HLK.out) (show 0 < k by have := HK.out.2; omega)
          rw [if_pos HLO.out, ← HT.out] at h1
          refine ⟨h1.symm.trans HK.out.1, ?_⟩
          have := HK.out.2
          simp only [List.length_cons, List.length_drop] at this ⊢; omega
        · rw [List.length_append]; exact HM3.out
        · show T2.size < T.size
          rw [HT2.out, HTs.out, strOfNums_size]; simp only [List.length_append, List.length_drop, List.length_cons, List.length_nil]; omega
      · have d4 : decide (at_ + (p.length : Int) < 16384) = false := decide_eq_false hlow
        have HLO := Aside0.mk hlow
        clear hlow
        gi_wp2_with (first
          | (gi_at_builtin; refine wpListIn_append_full_str _ rfl _ _ rfl (w1.heap.size + 1) _ p rfl HF.out T1 rfl (by have := HL1.out; have := HPL.out; omega) (by have := HM.out.lt; omega) ?_; intro v' w3 hf3 hg3; have HM3 := Aside0.mk (HM.out.grown hg3 (fun e => by have := (HF.out.base_ _ e.symm).1; omega)); have HP3 := Aside0.mk (HPr.out.grown hg3 (fun e => by have := (HF.out.base_ _ e.symm).1; have := (blk_lt HP1.out.cell); omega) (fun e => by have := (HF.out.base_ _ e.symm).1; have := HP1.out.map.lt; omega)); have HG3 := Aside0.mk (HG.out.andThen hg3 (fun j e => by have := (HF.out.base_ _ e).1; have := HW1.out.size; omega)); rw [HT1.out] at hf3; have HF3 := Aside0.mk hf3; clear hf3 hg3))
        refine ⟨⟨p ++ c :: r.take c.toNat, r.drop c.toNat, fr, k - 1, by rw [HT2.out], HF3, ⟨?_⟩, ⟨?_⟩, HM3, HP3, HG3⟩, ?_⟩
        · have := HST.out; rw [if_neg HLO.out] at this; exact this
        · have h1 := pk_step (a := at_) (p := p) (fr := fr) (show lookL S.L (strOfNums (c :: r ++ [0])) = none by rw [← HT.out]; exact HLK.out) (show 0 < k by have := HK.out.2; omega)
          rw [if_neg HLO.out] at h1
          refine ⟨h1.symm.trans HK.out.1, ?_⟩
          have := HK.out.2
          simp only [List.length_cons, List.length_drop] at this ⊢; omega
        · show T2.size < T.size
          rw [HT2.out, HTs.out, strOfNums_size]; simp only [List.length_append, List.length_drop, List.length_cons, List.length_nil]; omega

/-- Nothing but a packer's two blocks has turned. -/
def Pkd (w w' : World) (bm bp : Nat) : Prop := ∃ w1, w.grownBy w1 (some bm) ∧ w1.grownBy w' (some bp)
theorem Pkd.size {w w' : World} {bm bp : Nat} (h : Pkd w w' bm bp) : w.heap.size ≤ w'.heap.size := by
  obtain ⟨w1, h1, h2⟩ := h; exact Nat.le_trans h1.size h2.size
theorem Pkd.full {w w' : World} {bm bp base : Nat} {v : Value} {xs : List Int} (h : Pkd w w' bm bp) (hf : Full w base v xs) (h1 : v.ownBlock ≠ some bm) (h2 : v.ownBlock ≠ some bp) : Full w' base v xs := by
  obtain ⟨w1, k1, k2⟩ := h
  exact (hf.grown k1 (.inr h1)).grown k2 (.inr h2)
theorem Pkd.below {w0 w w' : World} {bm bp B : Nat} (h : Pkd w w' bm bp) (hb : Below B w0 w) (hB : B ≤ w.heap.size) (h1 : B ≤ bm) (h2 : B ≤ bp) : Below B w0 w' := by
  obtain ⟨w1, k1, k2⟩ := h
  have b1 := hb.grown k1 hB (fun j e => by injection e with e; omega)
  exact b1.grown k2 (Nat.le_trans hB k1.size) (fun j e => by injection e with e; omega)
theorem Pkd.of_below {w w' : World} {bm bp : Nat} (h : Below w.heap.size w w') : Pkd w w' bm bp := ⟨w', (grownBy_of_below h).but _, grown_refl _ _⟩

set_option maxHeartbeats 8000000 in
set_option maxRecDepth 100000 in
/-- What Name tells, and what the packer knows then. -/
theorem Packer_Name.in_ (n : Nat) (hn : 3 ≤ n) (w : World) {bp bm nn : Nat} {S : PS} (h : Pk w bp bm nn S) (hnn : nn ≤ 1000000) (at_ : Int) (s : ByteArray) (c : Int) (hc : name_Check.f s = some c) :
    CallsIn Fence.wide n Try.prog 51 #[.pointer (some ⟨bp, 0, none⟩), .int .i64 at_, .string s] w fun e w' => ∃ v, e = .returned (.tuple #[v, .int .i64 (packF S at_ s c).2.1]) ∧ Full w' w.heap.size v (packF S at_ s c).1 ∧ Pk w' bp bm (nn + 256) (packF S at_ s c).2.2 ∧ Pkd w w' bm bp := by
  have hm1 : ∀ W, (binOp BinOp.eql 55 (.map (some bm)) (.map none)).run Try.prog W = .ok (.bool false) W := fun W => by
    first | rfl | (simp [binOp, go_sem, Try.underlying55] <;> done) | (unfold binOp; simp [go_sem, Try.underlying55]; rfl)
  have c0 : w.cell? ⟨bp, 0, none⟩ = some (.map (some bm)) := (blk_cell h.cell 0).trans rfl
  have HPk := Aside0.mk h
  have HC := Aside0.mk hc
  unfold packF
  by_cases h0 : c = 0
  · subst h0
    rw [if_neg (by simp)]
    by_cases h1 : at_ < 0 ∨ 65535 < at_
    · rw [if_pos h1]
      clear h hc
      rcases h1 with h1 | h1
      · have d1 : decide (at_ < 0) = true := decide_eq_true h1
        refine callsIn_of_wp Try.func51 rfl trivial ?_ rfl
        simp only [Try.ntmps51, List.size_toArray, List.length_cons, List.length_nil, Nat.reduceAdd, Nat.reduceSub, Array.replicate_succ, Array.replicate_zero, List.push_toArray, List.append_toArray, List.nil_append, List.cons_append]
        gi_wp2_with (first
          | (first | refine ⟨trivial, fun _ => by omega, ?_⟩ | refine ⟨trivial, ?_⟩); refine (callsIn_wide.2 (name_Check.calls s 0 _ HC.out)).mono ?_; rintro e w1 ⟨rfl, hb1⟩; have HB1 := Aside0.mk hb1; clear hb1)
        go_ret2
        exact ⟨_, rfl, .inl ⟨rfl, rfl⟩, ⟨(HPk.out.below HB1.out).cell, (HPk.out.below HB1.out).map.mono (by omega), HPk.out.tails, HPk.out.end_⟩, Pkd.of_below HB1.out⟩
      · have d1 : decide (at_ < 0) = false := decide_eq_false (by omega)
        have d2 : decide ((65535 : Int) < at_) = true := decide_eq_true h1
        refine callsIn_of_wp Try.func51 rfl trivial ?_ rfl
        simp only [Try.ntmps51, List.size_toArray, List.length_cons, List.length_nil, Nat.reduceAdd, Nat.reduceSub, Array.replicate_succ, Array.replicate_zero, List.push_toArray, List.append_toArray, List.nil_append, List.cons_append]
        gi_wp2_with (first
          | (first | refine ⟨trivial, fun _ => by omega, ?_⟩ | refine ⟨trivial, ?_⟩); refine (callsIn_wide.2 (name_Check.calls s 0 _ HC.out)).mono ?_; rintro e w1 ⟨rfl, hb1⟩; have HB1 := Aside0.mk hb1; clear hb1)
        go_ret2
        exact ⟨_, rfl, .inl ⟨rfl, rfl⟩, ⟨(HPk.out.below HB1.out).cell, (HPk.out.below HB1.out).map.mono (by omega), HPk.out.tails, HPk.out.end_⟩, Pkd.of_below HB1.out⟩
    · rw [if_neg h1]
      by_cases h2 : at_ < S.E
      · rw [if_pos h2]
        have d1 : decide (at_ < 0) = false := decide_eq_false (by omega)
        have d2 : decide ((65535 : Int) < at_) = false := decide_eq_false (by omega)
        have d3 : decide (at_ < S.E) = true := decide_eq_true h2
        clear h hc h1 h2
        refine callsIn_of_wp Try.func51 rfl trivial ?_ rfl
        simp only [Try.ntmps51, List.size_toArray, List.length_cons, List.length_nil, Nat.reduceAdd, Nat.reduceSub, Array.replicate_succ, Array.replicate_zero, List.push_toArray, List.append_toArray, List.nil_append, List.cons_append]
        gi_wp2_with (first
          | (first | refine ⟨trivial, fun _ => by omega, ?_⟩ | refine ⟨trivial, ?_⟩); refine (callsIn_wide.2 (name_Check.calls s 0 _ HC.out)).mono ?_; rintro e w1 ⟨rfl, hb1⟩; have HB1 := Aside0.mk hb1; have c1 := (blk_cell (HPk.out.below hb1).cell 1).trans rfl; clear hb1)
        go_ret2
        exact ⟨_, rfl, .inl ⟨rfl, rfl⟩, ⟨(HPk.out.below HB1.out).cell, (HPk.out.below HB1.out).map.mono (by omega), HPk.out.tails, HPk.out.end_⟩, Pkd.of_below HB1.out⟩
      · rw [if_neg h2]
        obtain ⟨a, ha, hab, hal, hs⟩ := check_form hc
        have hdl : (bytesOf s).dropLast = a := by rw [hs, str_bytes (bytesB_append.2 ⟨hab, by decide⟩)]; simp
        rw [hdl]
        refine (Packer_Name.main n hn w h hnn at_ (by omega) (by omega) (by omega) s hc a ha hab hal hs _ rfl).mono ?_
        rintro e w' ⟨v, w1, rfl, h3, h4, h5, h6⟩
        exact ⟨v, rfl, h3, h4, w1, h5, h6⟩
  · have h0b : (c != 0) = true := bne_iff_ne.2 h0
    rw [if_pos h0]
    clear h hc h0
    refine callsIn_of_wp Try.func51 rfl trivial ?_ rfl
    simp only [Try.ntmps51, List.size_toArray, List.length_cons, List.length_nil, Nat.reduceAdd, Nat.reduceSub, Array.replicate_succ, Array.replicate_zero, List.push_toArray, List.append_toArray, List.nil_append, List.cons_append]
    gi_wp2_with (first
      | (first | refine ⟨trivial, fun _ => by omega, ?_⟩ | refine ⟨trivial, ?_⟩); refine (callsIn_wide.2 (name_Check.calls s c _ HC.out)).mono ?_; rintro e w1 ⟨rfl, hb1⟩; have HB1 := Aside0.mk hb1; clear hb1)
    go_ret2
    exact ⟨_, rfl, .inl ⟨rfl, rfl⟩, ⟨(HPk.out.below HB1.out).cell, (HPk.out.below HB1.out).map.mono (by omega), HPk.out.tails, HPk.out.end_⟩, Pkd.of_below HB1.out⟩
end Go.Proofs.Ytjjbhpbmfpodeaa.X
end
section
namespace Go.Proofs.Ytjjbhpbmfpodeaa.X
open Go.RowKit Go.Maps Go.Proofs.Ytjjbhpbmfpodeaa.PB Go.Proofs.YtjjbhpbmfpodeaaW.PrintWords Go.Proofs.YtjjbhpbmfpodeaaW.PrintLast Go.Proofs.YtjjbhpbmfpodeaaW.PrintMore
set_option linter.unusedVariables false
set_option linter.unusedSimpArgs false
attribute [local go_sem] Oper.semAt_some

theorem info114 : (Try.prog.info? 114).map (fun i => (i.zero, i.size, i.bytes)) = some (some (.agg #[.string ⟨#[]⟩, .int .i64 0]), 2, 24) := by kernel_rfl
def toT (x : ByteArray × Int) : S114 := ⟨x.1, x.2⟩
def flat114 (xs : List (ByteArray × Int)) : List Value := xs.flatMap (fun x => [.string x.1, .int .i64 x.2])
theorem reps114 (w : World) (base : Nat) (ok : Nat → Prop) : ∀ xs : List (ByteArray × Int), Reps (k114.M w base ok) 2 (xs.map toT) (flat114 xs)
  | [] => Reps.none _ _
  | x :: xs => Reps.c2 (k114_mkM w base ok (toT x)) (reps114 w base ok xs)
theorem flat114_app (xs ys : List (ByteArray × Int)) : flat114 (xs ++ ys) = flat114 xs ++ flat114 ys := by simp [flat114]
theorem flat114_one (xs : List (ByteArray × Int)) : ∀ u ∈ flat114 xs, u.oneCell' = true := by
  intro u hu
  unfold flat114 at hu
  obtain ⟨x, _, hx⟩ := List.mem_flatMap.1 hu
  simp at hx
  rcases hx with rfl | rfl <;> rfl
theorem R114_of_own {w : World} {base : Nat} {v : Value} {xs : List (ByteArray × Int)} (h : w.ownsRow base 114 2 v xs.length (flat114 xs)) : Kd.R k114 114 w base (fun _ => True) v (xs.map toT) :=
  ⟨fun _ _ => trivial, flat114 xs, by rw [List.length_map]; exact h, reps114 _ _ _ _⟩

/-- The document's packer in block bq, its tails in v. -/
structure Rq (w : World) (base bq nn : Nat) (v : Value) (S : PS) : Prop where
  cell : w.heap[bq]? = some (.cells #[v, .int .i64 S.E] 64 (0, 0))
  row : w.ownsRow base 114 2 v S.L.length (flat114 S.L)
  tails : Tails S.L
  end_ : 0 ≤ S.E ∧ S.E ≤ 70000
  few : S.L.length ≤ nn
  lo : base ≤ bq

/-- What lies in a block of another kind is no row of tails. -/
theorem row_other {w : World} {base e sz n t : Nat} {v : Value} {xs : List Value} {cs : Array Value} {g : Nat} {z : Nat × Nat} (h : w.ownsRow base e sz v n xs) (hg : w.heap[g]? = some (.cells cs t z)) (ht : t ≠ e) : some g ≠ v.ownBlock := by
  intro he
  obtain ⟨cs', hc⟩ := own_typed h g he.symm
  rw [hg] at hc
  injection hc with hc
  injection hc with _ h2 _
  exact ht h2
theorem row_map {w : World} {base e sz n : Nat} {v : Value} {xs : List Value} {g m sz' : Nat} {α : Type} {k : TypeId} {K : KeyOf k α} {f : α → Option Value} (h : w.ownsRow base e sz v n xs) (hg : MapV K w g m f sz') : some g ≠ v.ownBlock := by
  intro he
  obtain ⟨cs', hc⟩ := own_typed h g he.symm
  obtain ⟨D, ⟨es, cl, hb, _⟩, _⟩ := hg
  rw [hc] at hb
  cases hb
theorem Rq.below {w w' : World} {base bq nn : Nat} {v : Value} {S : PS} (h : Rq w base bq nn v S) (hb : Below w.heap.size w w') : Rq w' base bq nn v S :=
  ⟨blk_below h.cell hb, ro_below h.row hb, h.tails, h.end_, h.few, h.lo⟩
theorem Rq.grown {w w' : World} {base bq nn : Nat} {v : Value} {S : PS} (h : Rq w base bq nn v S) {row : Option Nat} (hg : w.grownBy w' row) (h1 : some bq ≠ row) (h2 : v.ownBlock = none ∨ v.ownBlock ≠ row) : Rq w' base bq nn v S :=
  ⟨blk_grown h.cell hg h1, ro_grown h.row hg h2, h.tails, h.end_, h.few, h.lo⟩

set_option maxHeartbeats 8000000 in
set_option maxRecDepth 100000 in
theorem Packer_place.in_ (n : Nat) (hn : 1 ≤ n) (w : World) {base bq nn : Nat} {v : Value} {S : PS} (h : Rq w base bq nn v S) (hnn : nn ≤ 1000000) (s : ByteArray) :
    CallsIn Fence.wide n Try.prog 95 #[.pointer (some ⟨bq, 0, none⟩), .string s] w fun e w' => e = .returned (.int .i64 ((lookL S.L s).getD (-1))) ∧ w' = w := by
  obtain ⟨A, c, rfl, hc, hC⟩ := Kd.R_reads (R114_of_own h.row)
  rw [List.length_map] at hc hC
  have hlen : S.L.length ≤ 1000000 := Nat.le_trans h.few hnn
  have c0 : w.cell? ⟨bq, 0, none⟩ = some (.slice A S.L.length c) := by
    rw [← List.length_map (f := toT)]; exact (blk_cell h.cell 0).trans rfl
  have HC := Aside0.mk hC
  have HL := Aside0.mk hlen
  clear h hC hlen hc hnn
  refine callsIn_of_wp Try.func95 rfl trivial ?_ rfl
  simp only [Try.ntmps95, List.size_toArray, List.length_cons, List.length_nil, Nat.reduceAdd, Nat.reduceSub, Array.replicate_succ, Array.replicate_zero, List.push_toArray, List.append_toArray, List.nil_append, List.cons_append]
  gi_wp2
  gi_loopw [5] (fun p wr => ∃ i : Int, p = .int .i64 i ∧ 0 ≤ i ∧ i ≤ (S.L.length : Int) ∧ Aside0 (lookL (S.L.drop i.toNat) s = lookL S.L s) ∧ wr = w) (fun p _ => match p with | .int _ i => ((S.L.length : Int) - i).toNat | _ => 0)
  case atStart => exact ⟨0, rfl, by omega, by omega, ⟨rfl⟩, rfl⟩
  case round =>
    obtain ⟨i, rfl, h0, h1, HI, rfl⟩ := hrel
    by_cases hlt : i < (S.L.length : Int)
    · have d1 : decide (i < (S.L.length : Int)) = true := decide_eq_true hlt
      obtain ⟨ad, rfl, hx0, hx1⟩ := at_T114 HC.out i h0 hlt
      have hil : i.toNat < S.L.length := by omega
      have hr : rd_T114 (S.L.map toT) i = toT S.L[i.toNat] := by
        unfold rd_T114
        rw [List.getD_eq_getElem?_getD, List.getElem?_map, List.getElem?_eq_getElem hil]; rfl
      have hd : S.L.drop i.toNat = S.L[i.toNat] :: S.L.drop (i.toNat + 1) := List.drop_eq_getElem_cons hil
      obtain ⟨⟨T, t⟩, hx⟩ : ∃ x, x = S.L[i.toNat] := ⟨_, rfl⟩
      rw [hr, ← hx] at hx0 hx1
      have hk := HI.out
      rw [hd, ← hx, lookL_cons] at hk
      have hwi : IntKind.i64.wrap (i + 1) = i + 1 := IntWalk.i64_in _ (by have := HL.out; omega)
      have hp0 := eq_true h0
      have hq0 := eq_true hlt
      simp only [toT] at hx0 hx1
      have HLT := Aside0.mk hlt
      clear hr hd hx hil
      by_cases he : T = s
      · subst he
        rw [if_pos rfl] at hk
        have HE := Aside0.mk hk
        clear hk hlt
        have heq : (T.toList == T.toList) = true := beq_self_eq_true _
        gi_wp2
        go_ret
        refine ⟨?_, rfl⟩
        rw [← HE.out]; rfl
      · rw [if_neg he] at hk
        have HK := Aside0.mk hk
        have heq : (T.toList == s.toList) = false := beq_eq_false_iff_ne.2 (fun h => he (str_toList_eq h))
        clear hk hlt he
        gi_wp2
        refine ⟨⟨i + 1, rfl, by omega, by have := HLT.out; omega, ⟨?_⟩, trivial⟩, ?_⟩
        · rw [show (i + 1).toNat = i.toNat + 1 by omega]; exact HK.out
        · show ((S.L.length : Int) - (i + 1)).toNat < ((S.L.length : Int) - i).toNat
          have := HLT.out; omega
    · have d1 : decide (i < (S.L.length : Int)) = false := decide_eq_false hlt
      have e : lookL S.L s = none := by
        rw [← HI.out, List.drop_eq_nil_of_le (by omega), lookL_nil]
      have HE := Aside0.mk e
      clear hlt e
      gi_wp2
      go_ret
      refine ⟨?_, rfl⟩
      rw [HE.out]; rfl
end Go.Proofs.Ytjjbhpbmfpodeaa.X
end
section
namespace Go.Proofs.Ytjjbhpbmfpodeaa.X
open Go.RowKit Go.Maps Go.Proofs.Ytjjbhpbmfpodeaa.PB Go.Proofs.YtjjbhpbmfpodeaaW.PrintWords Go.Proofs.YtjjbhpbmfpodeaaW.PrintLast Go.Proofs.YtjjbhpbmfpodeaaW.PrintMore
set_option linter.unusedVariables false
set_option linter.unusedSimpArgs false
attribute [local go_sem] Oper.semAt_some

/-- Nothing but the document's packer's row and its block has turned. -/
def Rqd (w w' : World) (v : Value) (bq : Nat) : Prop := ∃ w1, w.grownBy w1 v.ownBlock ∧ w1.grownBy w' (some bq)
theorem Rqd.size {w w' : World} {v : Value} {bq : Nat} (h : Rqd w w' v bq) : w.heap.size ≤ w'.heap.size := by
  obtain ⟨w1, h1, h2⟩ := h; exact Nat.le_trans h1.size h2.size
theorem Rqd.full {w w' : World} {v u : Value} {bq base : Nat} {xs : List Int} (h : Rqd w w' v bq) (hf : Full w base u xs) (h1 : u.ownBlock = none ∨ u.ownBlock ≠ v.ownBlock) (h2 : u.ownBlock ≠ some bq) : Full w' base u xs := by
  obtain ⟨w1, k1, k2⟩ := h
  exact (hf.grown k1 h1).grown k2 (.inr h2)
theorem Rqd.pk {w w' : World} {v : Value} {bq bp bm nn : Nat} {S : PS} (h : Rqd w w' v bq) (hp : Pk w bp bm nn S) (h1 : some bp ≠ v.ownBlock) (h2 : some bm ≠ v.ownBlock) (h3 : bp ≠ bq) (h4 : bm ≠ bq) : Pk w' bp bm nn S := by
  obtain ⟨w1, k1, k2⟩ := h
  exact (hp.grown k1 h1 h2).grown k2 (fun e => h3 (by injection e)) (fun e => h4 (by injection e))
theorem Rqd.below {w0 w w' : World} {v : Value} {bq B : Nat} (h : Rqd w w' v bq) (hb : Below B w0 w) (hB : B ≤ w.heap.size) (h1 : ∀ k, v.ownBlock = some k → B ≤ k) (h2 : B ≤ bq) : Below B w0 w' := by
  obtain ⟨w1, k1, k2⟩ := h
  have b1 := hb.grown k1 hB h1
  exact b1.grown k2 (Nat.le_trans hB k1.size) (fun j e => by injection e with e; omega)
theorem Rqd.of_below {w w' : World} {v : Value} {bq : Nat} (h : Below w.heap.size w w') : Rqd w w' v bq := ⟨w', (grownBy_of_below h).but _, grown_refl _ _⟩
/-- The row of tails after: the one before, or a new one. -/
def Moved (w : World) (v v' : Value) : Prop := v'.ownBlock = v.ownBlock ∨ ∃ k, v'.ownBlock = some k ∧ w.heap.size ≤ k

theorem C_two (W : World) (a b : Int) : Kd.C (Kd.int .u8) (W.alloc (.cells #[.int .u8 a, .int .u8 b] 5)) (some ⟨W.heap.size, 0, none⟩) 2 [a, b] :=
  C_of_blk (xs := [a, b]) (blk_new W _) (by simp)
theorem own_one114 (W : World) (T : ByteArray) (k : Int) : (W.alloc (.cells #[.string T, .int .i64 k] 114)).ownsRow W.heap.size 114 2 (.slice (some ⟨W.heap.size, 0, none⟩) 1 1) 1 (flat114 [(T, k)]) :=
  World.ownsRow_lit (e := 114) (size := 2) W #[.string T, .int .i64 k] 1 (Nat.le_refl _) (by decide) rfl
/-- The name's bytes behind a part of it. -/
theorem name_tail {p q : List Int} : (strOfNums (p ++ q ++ [0])).extract p.length (strOfNums (p ++ q ++ [0])).size = strOfNums (q ++ [0]) := by
  rw [str_extract, List.append_assoc, List.drop_left, List.take_of_length_le (by rw [strOfNums_size]; simp)]
theorem str_mid (s : ByteArray) (i j : Int) (h0 : 0 ≤ i) (h1 : i ≤ j) (h2 : j ≤ s.size) (W : World) : (Instr.slice 9 (.string s) (some (.int .i64 i)) (some (.int .i64 j)) none).run Try.prog W = .ok (.string (s.extract i.toNat j.toNat)) W := by
  rw [run_slice_string W 9 s .i64 .i64 i j Try.underlying9 (by omega) (by omega) (by omega)]
theorem row_full_ne {w : World} {b base e sz n : Nat} {o v : Value} {xs : List Int} {ys : List Value} (hf : Full w b o xs) (hr : w.ownsRow base e sz v n ys) (he : (5 : Nat) ≠ e) : o.ownBlock = none ∨ o.ownBlock ≠ v.ownBlock := by
  rcases hf with ⟨rfl, _⟩ | ⟨g, zs, rfl, _, hg, _⟩
  · exact .inl rfl
  · exact .inr (row_other hr hg he)
theorem full_row_ne {w : World} {b base e sz n : Nat} {o v : Value} {xs : List Int} {ys : List Value} (hf : Full w b o xs) (hr : w.ownsRow base e sz v n ys) (he : (5 : Nat) ≠ e) : v.ownBlock = none ∨ v.ownBlock ≠ o.ownBlock := by
  cases hv : v.ownBlock with
  | none => exact .inl rfl
  | some k =>
    refine .inr (fun ho => ?_)
    rcases row_full_ne hf hr he with h | h
    · rw [h] at ho; cases ho
    · exact h (by rw [hv, ho])
/-- The end of Name: the tails laid, the place told. -/
theorem rq_done {w w3 w4 : World} {base bq nn B : Nat} {o v v4 : Value} {S : PS} {R : List Int × List (ByteArray × Int)} {fr : List (ByteArray × Int)} {p q : List Int} {at_ : Int} (hF : Full w3 B o R.1) (hB : w.heap.size ≤ B) (hBq : bq < B) (hQ : Rq w3 base bq nn v S) (hb : Below w.heap.size w w3)
    (hr4 : w4.ownsRow base 114 2 v4 (S.L.length + fr.length) (flat114 S.L ++ flat114 fr)) (hg4 : w3.grownBy w4 v.ownBlock) (hat4 : v4.ownBlock = v.ownBlock ∨ v4.ownBlock = some w3.heap.size) (hW : PkWay S.L p q fr) (hRF : R.2 = fr) (hRL : R.1.length ≤ 256) (h0 : 0 ≤ at_) (h1 : at_ ≤ 65535) :
    Full ((w4.setCell ⟨bq, 0, none⟩ v4).setCell ⟨bq, 1, none⟩ (.int .i64 (at_ + R.1.length))) w.heap.size o R.1 ∧ Rq ((w4.setCell ⟨bq, 0, none⟩ v4).setCell ⟨bq, 1, none⟩ (.int .i64 (at_ + R.1.length))) base bq (nn + 256) v4 ⟨S.L ++ R.2, at_ + R.1.length⟩ ∧
      Rqd w ((w4.setCell ⟨bq, 0, none⟩ v4).setCell ⟨bq, 1, none⟩ (.int .i64 (at_ + R.1.length))) v bq ∧ Moved w v v4 := by
  have hc4 := blk_grown hQ.cell hg4 (row_other hQ.row hQ.cell (by decide))
  have hg6 : w4.grownBy ((w4.setCell ⟨bq, 0, none⟩ v4).setCell ⟨bq, 1, none⟩ (.int .i64 (at_ + R.1.length))) (some bq) := grownBy_put (grownBy_put (grown_refl _ _) _ _) _ _
  have hne4 : some bq ≠ v4.ownBlock := row_other hr4 hc4 (by decide)
  have hl : fr.length ≤ 254 := by have := hW.few; have := hW.len; omega
  refine ⟨((((hF.grown hg4 (row_full_ne hF hQ.row (by decide))).far (p := ⟨bq, 0, none⟩) hBq _).far (p := ⟨bq, 1, none⟩) hBq _).lower hB), ⟨blk_put (blk_put hc4 0 _ rfl) 1 _ rfl, ?_, ?_, ?_, ?_, hQ.lo⟩, ⟨w4, ((grownBy_of_below hb).but _).andThen hg4 (fun j e => .inr e), hg6⟩, ?_⟩
  · show World.ownsRow _ base 114 2 v4 (S.L ++ R.2).length (flat114 (S.L ++ R.2))
    rw [hRF, List.length_append, flat114_app]
    exact ro_grown hr4 hg6 (.inr (fun e => hne4 e.symm))
  · rw [hRF]; exact hQ.tails.append hW.tails hW.new
  · show 0 ≤ at_ + (R.1.length : Int) ∧ at_ + (R.1.length : Int) ≤ 70000; omega
  · show (S.L ++ R.2).length ≤ nn + 256
    rw [hRF, List.length_append]; have := hQ.few; omega
  · rcases hat4 with h | h
    · exact .inl h
    · exact .inr ⟨_, h, hb.size⟩
theorem Full.alloc_ {w : World} {base : Nat} {v : Value} {xs : List Int} (h : Full w base v xs) (o : Obj) : Full (w.alloc o) base v xs := h.below (below_alloc (Below.refl _ _) o)
theorem Rq.alloc {w : World} {base bq nn : Nat} {v : Value} {S : PS} (h : Rq w base bq nn v S) (o : Obj) : Rq (w.alloc o) base bq nn v S := h.below (below_alloc (Below.refl _ _) o)
theorem ro_alloc {w : World} {base e sz n : Nat} {v : Value} {xs : List Value} (h : w.ownsRow base e sz v n xs) (o : Obj) : (w.alloc o).ownsRow base e sz v n xs := ro_below h (below_alloc (Below.refl _ _) o)
/-- What stays when the name's bytes grow. -/
theorem grow_out {w w1 W w3 : World} {base bq nn : Nat} {v o f : Value} {S : PS} {xs : List Int} {fr : List (ByteArray × Int)} (hF : Full W w1.heap.size o xs) (hQ1 : Rq w1 base bq nn v S) (hQ : Rq W base bq nn v S) (hO : W.ownsRow w1.heap.size 114 2 f fr.length (flat114 fr)) (hb : Below w.heap.size w W) (hs : w.heap.size ≤ w1.heap.size) (hg : W.grownBy w3 o.ownBlock) :
    Rq w3 base bq nn v S ∧ w3.ownsRow w1.heap.size 114 2 f fr.length (flat114 fr) ∧ Below w.heap.size w w3 :=
  ⟨hQ.grown hg (fun e => by have := (hF.base_ _ e.symm).1; have := blk_lt hQ1.cell; omega) (full_row_ne hF hQ.row (by decide)), ro_grown hO hg (full_row_ne hF hO (by decide)), hb.grown hg hb.size (fun j e => by have := (hF.base_ _ e).1; omega)⟩
/-- What stays when the new tails grow. -/
theorem grow_fr {w w1 W w3 : World} {base bq nn : Nat} {v o f : Value} {S : PS} {xs : List Int} {fr : List (ByteArray × Int)} (hF : Full W w1.heap.size o xs) (hQ1 : Rq w1 base bq nn v S) (hQ : Rq W base bq nn v S) (hO : W.ownsRow w1.heap.size 114 2 f fr.length (flat114 fr)) (hb : Below w.heap.size w W) (hs : w.heap.size ≤ w1.heap.size) (hg : W.grownBy w3 f.ownBlock) :
    Full w3 w1.heap.size o xs ∧ Rq w3 base bq nn v S ∧ Below w.heap.size w w3 := by
  refine ⟨hF.grown hg (row_full_ne hF hO (by decide)), hQ.grown hg (fun e => by have := (ro_lt hO _ e.symm).1; have := blk_lt hQ1.cell; omega) ?_, hb.grown hg hb.size (fun j e => by have := (ro_lt hO _ e).1; omega)⟩
  cases hv : v.ownBlock with
  | none => exact .inl rfl
  | some k => exact .inr (fun e => by have := (ro_lt hO _ e.symm).1; have := (ro_lt hQ1.row k hv).2; omega)

set_option maxHeartbeats 16000000 in
set_option maxRecDepth 100000 in
theorem RName.main (n : Nat) (hn : 3 ≤ n) (w : World) {base bq nn : Nat} {v : Value} {S : PS} (h : Rq w base bq nn v S) (hnn : nn ≤ 1000000) (at_ : Int) (h0 : 0 ≤ at_) (h1 : at_ ≤ 65535) (h2 : S.E ≤ at_) (s : ByteArray) (hc : ostiaryref04_Check.f (s.size + 1) s = some 0)
    (a : List Int) (ha : Lab a) (hab : bytesB a = true) (hal : a.length ≤ 254) (hs : s = strOfNums (a ++ [0])) (R : List Int × List (ByteArray × Int)) (hR : pk S.L at_ 256 [] a [] = R) :
    CallsIn Fence.wide n Try.prog 53 #[.pointer (some ⟨bq, 0, none⟩), .int .i64 at_, .string s] w fun e w' => ∃ o v', e = .returned (.tuple #[o, .int .i64 0]) ∧ Full w' w.heap.size o R.1 ∧ Rq w' base bq (nn + 256) v' ⟨S.L ++ R.2, at_ + R.1.length⟩ ∧ Rqd w w' v bq ∧ Moved w v v' := by
  refine callsIn_of_wp Try.func53 rfl trivial ?_ rfl
  simp only [Try.ntmps53, List.size_toArray, List.length_cons, List.length_nil, Nat.reduceAdd, Nat.reduceSub, Array.replicate_succ, Array.replicate_zero, List.push_toArray, List.append_toArray, List.nil_append, List.cons_append]
  have HQ := Aside0.mk h
  have d1 : decide (at_ < 0) = false := decide_eq_false (by omega)
  have d2 : decide ((65535 : Int) < at_) = false := decide_eq_false (by omega)
  have d3 : decide (at_ < S.E) = false := decide_eq_false (by omega)
  have HA := Aside0.mk h0
  have HB := Aside0.mk h1
  have HS := Aside0.mk hs
  have HL := Aside0.mk (show PkWay S.L [] a [] from ⟨ha, hab, by simpa using hal, Nat.le_refl _, Tails.nil, by simp, by simp⟩)
  have HR := Aside0.mk hR
  have HN := Aside0.mk hnn
  have HAL := Aside0.mk hal
  have HAB := Aside0.mk hab
  have HCK := Aside0.mk hc
  have HSZ : Aside0 (s.size = a.length + 1) := ⟨by rw [hs, strOfNums_size]; simp⟩
  clear h hs h0 h1 h2 hR ha hab hal hnn hc
  gi_wp2_with (first
    | (first | refine ⟨trivial, fun _ => by omega, ?_⟩ | refine ⟨trivial, ?_⟩); refine (callsIn_wide.2 (ostiaryref04_Check.calls (s.size + 1) s 0 _ HCK.out)).mono ?_; rintro e w1 ⟨rfl, hb1⟩; have HQ1 := Aside0.mk (HQ.out.below hb1); have HB1 := Aside0.mk hb1; have c1 := (blk_cell HQ1.out.cell 1).trans rfl; clear hb1)
  gi_loopw [9, 10, 11] (fun o f i wr => ∃ (p q : List Int) (fr : List (ByteArray × Int)) (k : Nat), i = .int .i64 p.length ∧ Aside0 (a = p ++ q) ∧ Aside0 (Full wr w1.heap.size o p) ∧ Aside0 (PkWay S.L p q fr) ∧ Aside0 (pk S.L at_ k p q fr = R ∧ q.length < k) ∧
      Aside0 (wr.ownsRow w1.heap.size 114 2 f fr.length (flat114 fr)) ∧ Aside0 (Rq wr base bq nn v S) ∧ Aside0 (Below w.heap.size w wr) ∧ Aside0 (w1.heap.size ≤ wr.heap.size))
    (fun _ _ i _ => match i with | .int _ i => (254 - i).toNat | _ => 0)
  case atStart =>
    exact ⟨[], a, [], 256, rfl, ⟨rfl⟩, ⟨.inl ⟨rfl, rfl⟩⟩, HL, ⟨HR.out, by have := HAL.out; omega⟩, ⟨World.ownsRow_nil _ _ _ _⟩, HQ1, HB1, ⟨Nat.le_refl _⟩⟩
  case round =>
    obtain ⟨p, q, fr, k, rfl, HPQ, HF, HWy, HK, HO, HQr, HBr, HSr⟩ := hrel
    obtain ⟨A, cc, rfl, hcc, _⟩ := HF.out.reads
    obtain ⟨A2, c2, rfl, hc2⟩ := ro_slice HO.out
    have HPL : Aside0 (p.length + q.length ≤ 254) := ⟨HWy.out.len⟩
    have hse : s = strOfNums (p ++ q ++ [0]) := by rw [HS.out, HPQ.out]
    have hbt : bt s p.length = rd (q ++ [0]) 0 := by
      rw [hse, bt_str (bytesB_append.2 ⟨HWy.out.bytes, by decide⟩), List.append_assoc]
      unfold rd
      simp
    have hsz : s.size = p.length + q.length + 1 := by rw [hse, strOfNums_size]; simp; omega
    have hix := str_ix s p.length (by omega) (by omega)
    rw [hbt] at hix
    have hfrom := str_from s p.length (by omega) (by omega)
    have htl : s.extract ((p.length : Int)).toNat s.size = strOfNums (q ++ [0]) := by
      rw [hse]; exact name_tail
    rw [htl] at hfrom
    obtain ⟨T, hT⟩ : ∃ T, T = strOfNums (q ++ [0]) := ⟨_, rfl⟩
    rw [← hT] at hfrom
    have HT := Aside0.mk hT
    have HSE := Aside0.mk hse
    have HSZ2 := Aside0.mk hsz
    have c0 := (blk_cell HQr.out.cell 0).trans rfl
    have c1 := (blk_cell HQr.out.cell 1).trans rfl
    have z0 := blk_frozen HQr.out.cell 0
    have z1 := blk_frozen HQr.out.cell 1
    clear hT hcc hc2 hbt hse htl hsz
    by_cases hq : q = []
    · subst hq
      have HR1 : Aside0 (R = (p ++ [0], fr)) := ⟨by have := HK.out.1; have h2 := HK.out.2; cases k with | zero => omega | succ k => rw [← this]; rfl⟩
      have hrd : rd ([] ++ [0]) 0 = 0 := rfl
      rw [hrd] at hix
      have e1 : ((0 : Int) != 0) = false := rfl
      have e2 : ((0 : Int) == 0) = true := rfl
      clear hrd
      have HRL : Aside0 (R.1.length ≤ 256) := ⟨by rw [HR1.out]; have := HPL.out; simp at this ⊢; omega⟩
      have HRF : Aside0 (R.2 = fr) := ⟨by rw [HR1.out]⟩
      have HFL : Aside0 (fr.length ≤ 254) := ⟨by have := HWy.out.few; have := HPL.out; omega⟩
      have hw9 : IntKind.i64.wrap (at_ + R.1.length) = at_ + R.1.length := IntWalk.i64_in _ (by have := HA.out; have := HB.out; have := HRL.out; omega)
      gi_wp2_with (first
        | (gi_at_builtin; refine wpListIn_append_full _ rfl _ _ rfl w1.heap.size _ p rfl (HF.out.alloc_ (Obj.cells #[.int .u8 0] 5)) (some ⟨wr.heap.size, 0, none⟩) 1 1 [0] rfl (C_lit1 wr 0) (by have := HPL.out; omega) (by have := HSr.out; simp; omega) ?_; intro v' w3 hf3 hgA; obtain ⟨hq3, ho3, hb3⟩ := grow_out (HF.out.alloc_ (Obj.cells #[.int .u8 0] 5)) HQ1.out (HQr.out.alloc _) (ro_alloc HO.out _) (below_alloc HBr.out _) HB1.out.size hgA; have HF3 : Aside0 (Full w3 w1.heap.size v' R.1) := ⟨by rw [HR1.out]; exact hf3⟩; have HQ3 := Aside0.mk hq3; have HO3 := Aside0.mk ho3; have HB3 := Aside0.mk hb3; obtain ⟨A3, c3, rfl, hc3, _⟩ := HF3.out.reads; have x0 := (blk_cell HQ3.out.cell 0).trans rfl; clear hc3 hf3 hgA hq3 ho3 hb3)
        | (gi_at_builtin; refine wpListIn_append_rows rfl _ _ 62 rfl base 114 _ 2 24 Try.underlying62 info114 rfl (by decide) v S.L.length _ rfl HQ3.out.row w1.heap.size _ fr.length _ rfl HO3.out (flat114_one fr) (by have := HQ3.out.few; have := HN.out; have := HFL.out; rw [maxLen_eq]; omega) (by have := HQ3.out.few; have := HN.out; have := HFL.out; omega) (by have := HQ3.out.lo; have := blk_lt HQ3.out.cell; omega) ?_; intro v4 w4 hr4 hg4 hat4; obtain ⟨A4, c4, rfl, hc4⟩ := ro_slice hr4; have HR4 := Aside0.mk hr4; have HG4 := Aside0.mk hg4; have HAT := Aside0.mk hat4; have hk4 := blk_grown HQ3.out.cell hg4 (row_other HQ3.out.row HQ3.out.cell (by decide)); have y0 := (blk_cell hk4 0).trans rfl; have y1 := blk_frozen hk4 0; have hk5 := blk_put hk4 0 (.slice A4 (S.L.length + fr.length) c4) rfl; have y2 := (blk_cell hk5 1).trans rfl; have y3 := blk_frozen hk5 1; clear hr4 hg4 hat4 hc4 hk4 hk5))
      go_ret2
      obtain ⟨g1, g2, g3, g4⟩ := rq_done HF3.out HB1.out.size (blk_lt HQ1.out.cell) HQ3.out HB3.out HR4.out HG4.out HAT.out HWy.out HRF.out HRL.out HA.out HB.out
      refine ⟨_, _, ?_, g1, g2, g3, g4⟩
      rfl
    obtain ⟨c, r, rfl⟩ := List.exists_cons_of_ne_nil hq
    clear hq
    have hrd : rd (c :: r ++ [0]) 0 = c := rfl
    rw [hrd] at hix
    clear hrd
    have HLC : Aside0 (1 ≤ c ∧ c ≤ 63) := ⟨by have h := HWy.out.lab; cases h; omega⟩
    have e1 : (c != 0) = true := bne_iff_ne.2 (by have := HLC.out; omega)
    have e2 : (c == 0) = false := beq_eq_false_iff_ne.2 (by have := HLC.out; omega)
    cases hlk : lookL S.L T with
    | some t0 =>
      have ht0 := HQr.out.tails.low _ (lookL_mem hlk)
      have HR1 : Aside0 (R = (p ++ ptr t0, fr)) := ⟨by have := HK.out.1; have h2 := HK.out.2; cases k with | zero => omega | succ k => rw [← this]; rw [HT.out] at hlk; rw [pk, hlk]⟩
      have HRL : Aside0 (R.1.length ≤ 256) := ⟨by rw [HR1.out]; have := HPL.out; simp [ptr] at this ⊢; omega⟩
      have HRF : Aside0 (R.2 = fr) := ⟨by rw [HR1.out]⟩
      have HFL : Aside0 (fr.length ≤ 254) := ⟨by have := HWy.out.few; have := HPL.out; omega⟩
      have hw9 : IntKind.i64.wrap (at_ + R.1.length) = at_ + R.1.length := IntWalk.i64_in _ (by have := HA.out; have := HB.out; have := HRL.out; omega)
      have HLK : Aside0 ((lookL S.L T).getD (-1) = t0) := ⟨by rw [hlk]; rfl⟩
      have hg0 : decide ((0 : Int) ≤ t0) = true := decide_eq_true ht0.1
      have hd1 : IntKind.i64.wrap (t0.tdiv 256) = t0 / 256 := by rw [Int.tdiv_eq_ediv_of_nonneg ht0.1, IntWalk.i64_in _ (by omega)]
      have hd2 : IntKind.i64.wrap (192 + t0 / 256) = 192 + t0 / 256 := IntWalk.i64_in _ (by omega)
      have hd3 : IntKind.u8.wrap (192 + t0 / 256) = 192 + t0 / 256 := by rw [IntKind.wrap_u8]; omega
      have hd4 : IntKind.i64.wrap (t0.tmod 256) = t0 % 256 := by rw [Int.tmod_eq_emod_of_nonneg ht0.1, IntWalk.i64_in _ (by omega)]
      have hd5 : IntKind.u8.wrap (t0 % 256) = t0 % 256 := by rw [IntKind.wrap_u8]; omega
      have hd6 : t0.tmod 256 % 256 = t0 % 256 := by rw [Int.tmod_eq_emod_of_nonneg ht0.1]; omega
      clear ht0 hlk
      gi_wp2_with (first
        | (first | refine ⟨trivial, fun _ => by omega, ?_⟩ | refine ⟨trivial, ?_⟩); refine (Packer_place.in_ (n - 1) (by omega) _ HQr.out HN.out T).mono ?_; rw [HLK.out]; rintro e w2 ⟨rfl, rfl⟩
        | (gi_at_builtin; refine wpListIn_append_full _ rfl _ _ rfl w1.heap.size _ p rfl (HF.out.alloc_ (Obj.cells #[.int .u8 (192 + t0 / 256), .int .u8 (t0 % 256)] 5)) (some ⟨w2.heap.size, 0, none⟩) 2 2 (ptr t0) rfl (C_two w2 _ _) (by have := HPL.out; omega) (by have := HSr.out; simp; omega) ?_; intro v' w3 hf3 hgA; obtain ⟨hq3, ho3, hb3⟩ := grow_out (HF.out.alloc_ (Obj.cells #[.int .u8 (192 + t0 / 256), .int .u8 (t0 % 256)] 5)) HQ1.out (HQr.out.alloc _) (ro_alloc HO.out _) (below_alloc HBr.out _) HB1.out.size hgA; have HF3 : Aside0 (Full w3 w1.heap.size v' R.1) := ⟨by rw [HR1.out]; exact hf3⟩; have HQ3 := Aside0.mk hq3; have HO3 := Aside0.mk ho3; have HB3 := Aside0.mk hb3; obtain ⟨A3, c3, rfl, hc3, _⟩ := HF3.out.reads; have x0 := (blk_cell HQ3.out.cell 0).trans rfl; clear hc3 hf3 hgA hq3 ho3 hb3)
        | (gi_at_builtin; refine wpListIn_append_rows rfl _ _ 62 rfl base 114 _ 2 24 Try.underlying62 info114 rfl (by decide) v S.L.length _ rfl HQ3.out.row w1.heap.size _ fr.length _ rfl HO3.out (flat114_one fr) (by have := HQ3.out.few; have := HN.out; have := HFL.out; rw [maxLen_eq]; omega) (by have := HQ3.out.few; have := HN.out; have := HFL.out; omega) (by have := HQ3.out.lo; have := blk_lt HQ3.out.cell; omega) ?_; intro v4 w4 hr4 hg4 hat4; obtain ⟨A4, c4, rfl, hc4⟩ := ro_slice hr4; have HR4 := Aside0.mk hr4; have HG4 := Aside0.mk hg4; have HAT := Aside0.mk hat4; have hk4 := blk_grown HQ3.out.cell hg4 (row_other HQ3.out.row HQ3.out.cell (by decide)); have y0 := (blk_cell hk4 0).trans rfl; have y1 := blk_frozen hk4 0; have hk5 := blk_put hk4 0 (.slice A4 (S.L.length + fr.length) c4) rfl; have y2 := (blk_cell hk5 1).trans rfl; have y3 := blk_frozen hk5 1; clear hr4 hg4 hat4 hc4 hk4 hk5))
      go_ret2
      obtain ⟨g1, g2, g3, g4⟩ := rq_done HF3.out HB1.out.size (blk_lt HQ1.out.cell) HQ3.out HB3.out HR4.out HG4.out HAT.out HWy.out HRF.out HRL.out HA.out HB.out
      refine ⟨_, _, ?_, g1, g2, g3, g4⟩
      rfl
    | none =>
      obtain ⟨hc1, hc2, hc3, hstep⟩ := HWy.out.step HA.out (by rw [← HT.out]; exact hlk)
      have HLK : Aside0 ((lookL S.L T).getD (-1) = -1) := ⟨by rw [hlk]; rfl⟩
      have hg0 : decide ((0 : Int) ≤ -1) = false := rfl
      have hw0 : IntKind.i64.wrap c = c := IntWalk.i64_in _ (by omega)
      have hw1 : IntKind.i64.wrap ((p.length : Int) + 1) = (p.length : Int) + 1 := IntWalk.i64_in _ (by have := HPL.out; omega)
      have hw3 : IntKind.i64.wrap ((p.length : Int) + 1 + c) = (p.length : Int) + 1 + c := IntWalk.i64_in _ (by have := HPL.out; omega)
      have hw2 : IntKind.i64.wrap (at_ + p.length) = at_ + p.length := IntWalk.i64_in _ (by have := HA.out; have := HB.out; have := HPL.out; omega)
      have hsz := HSZ2.out
      simp only [List.length_cons] at hsz
      have hs1 := str_mid s p.length ((p.length : Int) + 1 + c) (by omega) (by omega) (by omega)
      obtain ⟨T1, hT1⟩ : ∃ T1, T1 = s.extract ((p.length : Int)).toNat ((p.length : Int) + 1 + c).toNat := ⟨_, rfl⟩
      rw [← hT1] at hs1
      have HT1 : Aside0 (bytesOf T1 = c :: r.take c.toNat) := ⟨by
        rw [hT1, HSE.out, str_extract, str_bytes (bytesB_take _ (bytesB_drop _ (bytesB_append.2 ⟨HWy.out.bytes, by decide⟩)))]
        rw [Int.toNat_natCast, List.append_assoc, List.drop_left, show ((p.length : Int) + 1 + c).toNat - p.length = c.toNat + 1 by omega, List.cons_append, List.take_succ_cons, List.take_append_of_le_length hc3]⟩
      have HST := Aside0.mk hstep
      have HL1 : Aside0 (T1.size ≤ 254) := ⟨by
        rw [← bytesOf_len, HT1.out, List.length_cons, List.length_take]; have := HPL.out; simp only [List.length_cons] at this; omega⟩
      have HFL : Aside0 (fr.length ≤ 254) := ⟨by have := HWy.out.few; have := HPL.out; omega⟩
      have HPK := Aside0.mk (pk_step (a := at_) (p := p) (fr := fr) (show lookL S.L (strOfNums (c :: r ++ [0])) = none by rw [← HT.out]; exact hlk) (show 0 < k by have := HK.out.2; omega))
      have HC3 := Aside0.mk hc3
      have HAQ : Aside0 (a = (p ++ c :: r.take c.toNat) ++ r.drop c.toNat) := ⟨by rw [HPQ.out]; simp⟩
      have HIL : Aside0 ((p.length : Int) + 1 + c = ((p ++ c :: r.take c.toNat).length : Int)) := ⟨by simp only [List.length_append, List.length_cons, List.length_take]; omega⟩
      have HKL : Aside0 ((r.drop c.toNat).length < k - 1) := ⟨by have := HK.out.2; simp only [List.length_cons, List.length_drop] at this ⊢; omega⟩
      have HCC := Aside0.mk hc1
      clear hT1 hstep hc1 hc2 hc3 hlk hsz
      by_cases hlow : at_ + (p.length : Int) < 16384
      · have d4 : decide (at_ + (p.length : Int) < 16384) = true := decide_eq_true hlow
        have HLO := Aside0.mk hlow
        clear hlow
        gi_wp2_with (first
          | (first | refine ⟨trivial, fun _ => by omega, ?_⟩ | refine ⟨trivial, ?_⟩); refine (Packer_place.in_ (n - 1) (by omega) _ HQr.out HN.out T).mono ?_; rw [HLK.out]; rintro e w9 ⟨rfl, h9⟩; subst h9
          | (gi_at_builtin; refine wpListIn_append_rows rfl _ _ 62 rfl w1.heap.size 114 _ 2 24 Try.underlying62 info114 rfl (by decide) _ fr.length _ rfl (ro_alloc HO.out (Obj.cells #[.string T, .int .i64 (at_ + p.length)] 114)) _ _ 1 _ rfl (own_one114 _ T (at_ + p.length)) (flat114_one [(T, at_ + p.length)]) (by have := HFL.out; rw [maxLen_eq]; omega) (by have := HFL.out; omega) (by have := HSr.out; simp; omega) ?_; intro v4 w2 hr4 hg4 hat4; obtain ⟨hf2, hq2, hb2⟩ := grow_fr (HF.out.alloc_ (Obj.cells #[.string T, .int .i64 (at_ + p.length)] 114)) HQ1.out (HQr.out.alloc _) (ro_alloc HO.out _) (below_alloc HBr.out _) HB1.out.size hg4; have HF2 := Aside0.mk hf2; have HQ2 := Aside0.mk hq2; have HB2 := Aside0.mk hb2; have HS2 := Aside0.mk (Nat.le_trans HSr.out (Nat.le_trans (by simp) hg4.size)); have HO2 : Aside0 (w2.ownsRow w1.heap.size 114 2 v4 (fr ++ [(T, at_ + p.length)]).length (flat114 (fr ++ [(T, at_ + p.length)]))) := ⟨by rw [flat114_app, List.length_append]; exact hr4⟩; clear hr4 hg4 hat4 hf2 hq2 hb2)
          | (gi_at_builtin; refine wpListIn_append_full_str _ rfl _ _ rfl w1.heap.size _ p rfl HF2.out T1 rfl (by have := HL1.out; have := HPL.out; omega) (by have := HS2.out; omega) ?_; intro v' w3 hf3 hgA; obtain ⟨hq3, ho3, hb3⟩ := grow_out HF2.out HQ1.out HQ2.out HO2.out HB2.out HB1.out.size hgA; have HS3 := Aside0.mk (Nat.le_trans HS2.out hgA.size); rw [HT1.out] at hf3; have HF3 := Aside0.mk hf3; have HQ3 := Aside0.mk hq3; have HO3 := Aside0.mk ho3; have HB3 := Aside0.mk hb3; clear hf3 hgA hq3 ho3 hb3))
        refine ⟨⟨p ++ c :: r.take c.toNat, r.drop c.toNat, fr ++ [(T, at_ + p.length)], k - 1, by rw [HIL.out], HAQ, HF3, ⟨?_⟩, ⟨?_⟩, HO3, HQ3, HB3, HS3⟩, ?_⟩
        · have := HST.out; rw [if_pos HLO.out, ← HT.out] at this; exact this
        · have h1 := HPK.out
          rw [if_pos HLO.out, ← HT.out] at h1
          exact ⟨h1.symm.trans HK.out.1, HKL.out⟩
        · show (254 - ((p.length : Int) + 1 + c)).toNat < (254 - (p.length : Int)).toNat
          have h5 := HPL.out; have := HCC.out; have := HC3.out; simp only [List.length_cons] at h5; omega
      · have d4 : decide (at_ + (p.length : Int) < 16384) = false := decide_eq_false hlow
        have HLO := Aside0.mk hlow
        clear hlow
        have HF2 := HF
        have HQ2 := HQr
        have HO2 := HO
        have HB2 := HBr
        have HS2 := HSr
        gi_wp2_with (first
          | (first | refine ⟨trivial, fun _ => by omega, ?_⟩ | refine ⟨trivial, ?_⟩); refine (Packer_place.in_ (n - 1) (by omega) _ HQr.out HN.out T).mono ?_; rw [HLK.out]; rintro e w9 ⟨rfl, h9⟩; subst h9
          | (gi_at_builtin; refine wpListIn_append_full_str _ rfl _ _ rfl w1.heap.size _ p rfl HF2.out T1 rfl (by have := HL1.out; have := HPL.out; omega) (by have := HS2.out; omega) ?_; intro v' w3 hf3 hgA; obtain ⟨hq3, ho3, hb3⟩ := grow_out HF2.out HQ1.out HQ2.out HO2.out HB2.out HB1.out.size hgA; have HS3 := Aside0.mk (Nat.le_trans HS2.out hgA.size); rw [HT1.out] at hf3; have HF3 := Aside0.mk hf3; have HQ3 := Aside0.mk hq3; have HO3 := Aside0.mk ho3; have HB3 := Aside0.mk hb3; clear hf3 hgA hq3 ho3 hb3))
        refine ⟨⟨p ++ c :: r.take c.toNat, r.drop c.toNat, fr, k - 1, by rw [HIL.out], HAQ, HF3, ⟨?_⟩, ⟨?_⟩, HO3, HQ3, HB3, HS3⟩, ?_⟩
        · have := HST.out; rw [if_neg (by have := HLO.out; omega)] at this; exact this
        · have h1 := HPK.out
          rw [if_neg (by have := HLO.out; omega)] at h1
          exact ⟨h1.symm.trans HK.out.1, HKL.out⟩
        · show (254 - ((p.length : Int) + 1 + c)).toNat < (254 - (p.length : Int)).toNat
          have h5 := HPL.out; have := HCC.out; have := HC3.out; simp only [List.length_cons] at h5; omega
theorem Rq.more {w : World} {base bq nn nn' : Nat} {v : Value} {S : PS} (h : Rq w base bq nn v S) (hn : nn ≤ nn') : Rq w base bq nn' v S := ⟨h.cell, h.row, h.tails, h.end_, Nat.le_trans h.few hn, h.lo⟩

set_option maxHeartbeats 8000000 in
set_option maxRecDepth 100000 in
/-- What Name tells, and what the document's packer knows then. -/
theorem RName.in_ (n : Nat) (hn : 3 ≤ n) (w : World) {base bq nn : Nat} {v : Value} {S : PS} (h : Rq w base bq nn v S) (hnn : nn ≤ 1000000) (at_ : Int) (s : ByteArray) (hs : s.size ≤ 2000000) (c : Int) (hcn : name_Check.f s = some c) :
    CallsIn Fence.wide n Try.prog 53 #[.pointer (some ⟨bq, 0, none⟩), .int .i64 at_, .string s] w fun e w' => ∃ o v', e = .returned (.tuple #[o, .int .i64 (packF S at_ s c).2.1]) ∧ Full w' w.heap.size o (packF S at_ s c).1 ∧ Rq w' base bq (nn + 256) v' (packF S at_ s c).2.2 ∧ Rqd w w' v bq ∧ Moved w v v' := by
  have hc : ostiaryref04_Check.f (s.size + 1) s = some c := by
    obtain ⟨c', h1, h2⟩ := ref_check hs
    rw [hcn] at h1
    injection h1 with h1
    subst h1
    exact h2 _ (Nat.le_refl _)
  have HQ := Aside0.mk h
  have HC := Aside0.mk hc
  unfold packF
  by_cases h0 : c = 0
  · subst h0
    rw [if_neg (by simp)]
    by_cases h1 : at_ < 0 ∨ 65535 < at_
    · rw [if_pos h1]
      clear h hc
      rcases h1 with h1 | h1
      · have d1 : decide (at_ < 0) = true := decide_eq_true h1
        refine callsIn_of_wp Try.func53 rfl trivial ?_ rfl
        simp only [Try.ntmps53, List.size_toArray, List.length_cons, List.length_nil, Nat.reduceAdd, Nat.reduceSub, Array.replicate_succ, Array.replicate_zero, List.push_toArray, List.append_toArray, List.nil_append, List.cons_append]
        gi_wp2_with (first
          | (first | refine ⟨trivial, fun _ => by omega, ?_⟩ | refine ⟨trivial, ?_⟩); refine (callsIn_wide.2 (ostiaryref04_Check.calls (s.size + 1) s 0 _ HC.out)).mono ?_; rintro e w1 ⟨rfl, hb1⟩; have HB1 := Aside0.mk hb1; clear hb1)
        go_ret2
        exact ⟨_, _, rfl, .inl ⟨rfl, rfl⟩, (HQ.out.below HB1.out).more (by omega), Rqd.of_below HB1.out, .inl rfl⟩
      · have d1 : decide (at_ < 0) = false := decide_eq_false (by omega)
        have d2 : decide ((65535 : Int) < at_) = true := decide_eq_true h1
        refine callsIn_of_wp Try.func53 rfl trivial ?_ rfl
        simp only [Try.ntmps53, List.size_toArray, List.length_cons, List.length_nil, Nat.reduceAdd, Nat.reduceSub, Array.replicate_succ, Array.replicate_zero, List.push_toArray, List.append_toArray, List.nil_append, List.cons_append]
        gi_wp2_with (first
          | (first | refine ⟨trivial, fun _ => by omega, ?_⟩ | refine ⟨trivial, ?_⟩); refine (callsIn_wide.2 (ostiaryref04_Check.calls (s.size + 1) s 0 _ HC.out)).mono ?_; rintro e w1 ⟨rfl, hb1⟩; have HB1 := Aside0.mk hb1; clear hb1)
        go_ret2
        exact ⟨_, _, rfl, .inl ⟨rfl, rfl⟩, (HQ.out.below HB1.out).more (by omega), Rqd.of_below HB1.out, .inl rfl⟩
    · rw [if_neg h1]
      by_cases h2 : at_ < S.E
      · rw [if_pos h2]
        have d1 : decide (at_ < 0) = false := decide_eq_false (by omega)
        have d2 : decide ((65535 : Int) < at_) = false := decide_eq_false (by omega)
        have d3 : decide (at_ < S.E) = true := decide_eq_true h2
        clear h hc h1 h2
        refine callsIn_of_wp Try.func53 rfl trivial ?_ rfl
        simp only [Try.ntmps53, List.size_toArray, List.length_cons, List.length_nil, Nat.reduceAdd, Nat.reduceSub, Array.replicate_succ, Array.replicate_zero, List.push_toArray, List.append_toArray, List.nil_append, List.cons_append]
        gi_wp2_with (first
          | (first | refine ⟨trivial, fun _ => by omega, ?_⟩ | refine ⟨trivial, ?_⟩); refine (callsIn_wide.2 (ostiaryref04_Check.calls (s.size + 1) s 0 _ HC.out)).mono ?_; rintro e w1 ⟨rfl, hb1⟩; have HB1 := Aside0.mk hb1; have c1 := (blk_cell (HQ.out.below hb1).cell 1).trans rfl; clear hb1)
        go_ret2
        exact ⟨_, _, rfl, .inl ⟨rfl, rfl⟩, (HQ.out.below HB1.out).more (by omega), Rqd.of_below HB1.out, .inl rfl⟩
      · rw [if_neg h2]
        obtain ⟨a, ha, hab, hal, hs⟩ := check_form hcn
        have hdl : (bytesOf s).dropLast = a := by rw [hs, str_bytes (bytesB_append.2 ⟨hab, by decide⟩)]; simp
        rw [hdl]
        exact RName.main n hn w h hnn at_ (by omega) (by omega) (by omega) s hc a ha hab hal hs _ rfl
  · have h0b : (c != 0) = true := bne_iff_ne.2 h0
    rw [if_pos h0]
    clear h hc h0
    refine callsIn_of_wp Try.func53 rfl trivial ?_ rfl
    simp only [Try.ntmps53, List.size_toArray, List.length_cons, List.length_nil, Nat.reduceAdd, Nat.reduceSub, Array.replicate_succ, Array.replicate_zero, List.push_toArray, List.append_toArray, List.nil_append, List.cons_append]
    gi_wp2_with (first
      | (first | refine ⟨trivial, fun _ => by omega, ?_⟩ | refine ⟨trivial, ?_⟩); refine (callsIn_wide.2 (ostiaryref04_Check.calls (s.size + 1) s c _ HC.out)).mono ?_; rintro e w1 ⟨rfl, hb1⟩; have HB1 := Aside0.mk hb1; clear hb1)
    go_ret2
    exact ⟨_, _, rfl, .inl ⟨rfl, rfl⟩, (HQ.out.below HB1.out).more (by omega), Rqd.of_below HB1.out, .inl rfl⟩

end Go.Proofs.Ytjjbhpbmfpodeaa.X
end
section
namespace Go.Proofs.Ytjjbhpbmfpodeaa.X
open Go.RowKit Go.Proofs.YtjjbhpbmfpodeaaW.PrintWords Go.Proofs.YtjjbhpbmfpodeaaW.PrintLast Go.Proofs.YtjjbhpbmfpodeaaW.PrintMore
attribute [local go_sem] max2_int min2_int max_two min_two max_three min_three max_four min_four   -- for this text's walks alone
set_option linter.unusedVariables false
set_option linter.unusedSimpArgs false

/-! ### ostiarylaw05_long: function 50 -/
mutual
def ostiarylaw05_long.l0 : Nat → List (S52) → Int → Option (Bool)
  | 0, _, _ => none
  | k + 1, x0, x3 => if x3 < (x0.length : Int) then (ostiarylaw05_long.j1 k x0 x3 (decide (x3 < 61))) else (ostiarylaw05_long.j1 k x0 x3 false)
def ostiarylaw05_long.j1 : Nat → List (S52) → Int → Bool → Option (Bool)
  | 0, _, _, _ => none
  | k + 1, x0, x3, x11 => if x11 = true then (if 0 ≤ x3 then (if x3 < (x0.length : Int) then (if (((rd_T52 x0 x3).f0).size : Int) > 400 then (some true) else (ostiarylaw05_long.l0 k x0 (wrap64 (x3 + 1)))) else (none)) else (none)) else (some (decide ((x0.length : Int) > 60)))
end
def ostiarylaw05_long.f (k : Nat) (l0 : List (S52)) : Option (Bool) := ostiarylaw05_long.l0 k l0 0
set_option maxHeartbeats 8000000 in
set_option maxRecDepth 100000 in
theorem ostiarylaw05_long.calls (k : Nat) (A0 : Option Addr) (c0 : Nat) (l0 : List (S52)) (r : Bool) (w : World) (hr0 : Kd.C k52 w A0 l0.length l0) (hc0 : l0.length ≤ c0) (h : ostiarylaw05_long.f k l0 = some r) :
    Calls Try.prog 50 #[.slice A0 l0.length c0] w fun e w' => e = .returned (.bool r) ∧ Drawn0 w w' := by
  have HR0 := Aside0.mk hr0
  have HC0 := Aside0.mk hc0
  clear hr0 hc0
  have H : (ostiarylaw05_long.l0 k l0 0) = some r := h
  clear h
  have H' := Aside0.mk H
  clear H
  go_enter Try.func50, Try.ntmps50
  go_wp2
  go_loopg [3] k (fun kq v3 w' => ∃ (x3_1 : Int), v3 = .int .i64 x3_1 ∧ Aside0 (ostiarylaw05_long.l0 kq l0 x3_1 = some r) ∧ Aside0 (kq ≤ k) ∧ Drawn0 w w')
  case atStart => exact ⟨(0), (by first | rfl | (simp; done) | (simp [*]; done)), H', ⟨Nat.le_refl _⟩, by repeat (first | exact Drawn0.refl _ | apply Drawn0.step)⟩
  case round =>
    clear H'
    obtain ⟨x3_1, rfl, HA, HK1, ⟨m1, rfl⟩⟩ := hrel
    cases gk with
    | zero => exact absurd HA.out (by simp [ostiarylaw05_long.l0])
    | succ k1 =>
      have H := HA.out
      clear HA
      simp only [ostiarylaw05_long.l0] at H
      have HC2 := Aside0.mk H
      clear H
      go_upto_region 2 with (fail)
      go_cut [11] (fun v11 wc => ∃ (kq : Nat) (x11_1 : Bool), v11 = .bool x11_1 ∧ Aside0 (ostiarylaw05_long.j1 kq l0 x3_1 x11_1 = some r) ∧ Aside0 (kq ≤ k1) ∧ Drawn0 w wc)
      case first =>
        have H := HC2.out
        clear HC2
        by_cases c3 : x3_1 < (l0.length : Int)
        · rw [if_pos c3] at H
          have c3b0 : decide (x3_1 < (l0.length : Int)) = true := decide_eq_true c3
          clear c3
          (first | rw [c3b0] | (simp only [i64_w, i32_w]; rw [c3b0]) | skip)
          have H' := Aside0.mk H
          clear H
          go_wp2
          go_meet
          case rel => exact ⟨_, (decide (x3_1 < 61)), (by first | rfl | (simp; done) | (simp [*]; done)), H', ⟨by have := HK1.out; first | omega | exact Nat.le_refl _⟩, by repeat (first | exact Drawn0.refl _ | apply Drawn0.step)⟩
        · rw [if_neg c3] at H
          have c3b0 : decide (x3_1 < (l0.length : Int)) = false := decide_eq_false c3
          clear c3
          (first | rw [c3b0] | (simp only [i64_w, i32_w]; rw [c3b0]) | skip)
          have H' := Aside0.mk H
          clear H
          go_wp2
          go_meet
          case rel => exact ⟨_, (false), (by first | rfl | (simp; done) | (simp [*]; done)), H', ⟨by have := HK1.out; first | omega | exact Nat.le_refl _⟩, by repeat (first | exact Drawn0.refl _ | apply Drawn0.step)⟩
      case rest =>
        clear HC2
        try clear p2
        try clear c3
        try clear c3b0
        obtain ⟨kq, x11_1, rfl, HA, HJ1, ⟨mc1, rfl⟩⟩ := hcut
        cases kq with
        | zero => exact absurd HA.out (by simp [ostiarylaw05_long.j1])
        | succ kj1 =>
          have H := HA.out
          clear HA
          simp only [ostiarylaw05_long.j1] at H
          by_cases c4 : x11_1 = true
          · subst c4
            have H1 : (if 0 ≤ x3_1 then (if x3_1 < (l0.length : Int) then (if (((rd_T52 l0 x3_1).f0).size : Int) > 400 then (some true) else (ostiarylaw05_long.l0 kj1 l0 (wrap64 (x3_1 + 1)))) else (none)) else (none)) = some r := by rw [if_pos rfl] at H; exact H
            clear H
            have H := H1
            clear H1
            by_cases c5 : 0 ≤ x3_1
            · rw [if_pos c5] at H
              have c5b0 : decide (0 ≤ x3_1) = true := decide_eq_true c5
              clear c5
              by_cases c6 : x3_1 < (l0.length : Int)
              · rw [if_pos c6] at H
                have c6b0 : decide (x3_1 < (l0.length : Int)) = true := decide_eq_true c6
                clear c6
                by_cases c7 : (((rd_T52 l0 x3_1).f0).size : Int) > 400
                · rw [if_pos c7] at H
                  have c7b0 : decide (400 < (((rd_T52 l0 x3_1).f0).size : Int)) = true := decide_eq_true c7
                  have c7b1 : decide (400 < ((rd_T52 l0 x3_1).f0).size) = true := decide_eq_true (by omega)
                  clear c7
                  obtain rfl := Option.some.inj H
                  have p101 : 0 ≤ (x3_1 : Int) := of_decide_eq_true (by first | (with_reducible assumption) | assumption)
                  have q101 : x3_1 < (l0.length : Int) := of_decide_eq_true (by first | (with_reducible assumption) | assumption)
                  obtain ⟨ad101, e101, hx101_0, hx101_1, hx101_2⟩ := at_T52 HR0.out x3_1 p101 q101
                  cases e101
                  replace p101 := eq_true p101
                  replace q101 := eq_true q101
                  go_wp2
                  go_ret
                  exact ⟨by first | rfl | (simp; done) | (simp [*]; done), by repeat (first | exact Drawn0.refl _ | apply Drawn0.step)⟩
                · rw [if_neg c7] at H
                  have c7b0 : decide (400 < (((rd_T52 l0 x3_1).f0).size : Int)) = false := decide_eq_false c7
                  have c7b1 : decide (400 < ((rd_T52 l0 x3_1).f0).size) = false := decide_eq_false (by omega)
                  clear c7
                  have H' := Aside0.mk H
                  clear H
                  have p101 : 0 ≤ (x3_1 : Int) := of_decide_eq_true (by first | (with_reducible assumption) | assumption)
                  have q101 : x3_1 < (l0.length : Int) := of_decide_eq_true (by first | (with_reducible assumption) | assumption)
                  obtain ⟨ad101, e101, hx101_0, hx101_1, hx101_2⟩ := at_T52 HR0.out x3_1 p101 q101
                  cases e101
                  replace p101 := eq_true p101
                  replace q101 := eq_true q101
                  go_wp2
                  go_roundg kj1
                  case measure => have := HK1.out; have := HJ1.out; omega
                  case rel => exact ⟨(wrap64 (x3_1 + 1)), (by first | rfl | (simp; done) | (simp [*]; done)), H', ⟨by have := HK1.out; have := HJ1.out; omega⟩, by repeat (first | exact Drawn0.refl _ | apply Drawn0.step)⟩
              · rw [if_neg c6] at H
                exact absurd H (by simp)
            · rw [if_neg c5] at H
              exact absurd H (by simp)
          · replace c4 := Bool.eq_false_iff.mpr c4
            subst c4
            have H1 : (some (decide ((l0.length : Int) > 60))) = some r := by rw [if_neg (show ¬ (false = true) by decide)] at H; exact H
            clear H
            have H := H1
            clear H1
            obtain rfl := Option.some.inj H
            go_wp2
            go_ret
            exact ⟨by first | rfl | (simp; done) | (simp [*]; done), by repeat (first | exact Drawn0.refl _ | apply Drawn0.step)⟩

end Go.Proofs.Ytjjbhpbmfpodeaa.X
end
section
namespace Go.Proofs.Ytjjbhpbmfpodeaa.X
open Go.RowKit Go.Proofs.YtjjbhpbmfpodeaaW.PrintWords Go.Proofs.YtjjbhpbmfpodeaaW.PrintLast Go.Proofs.YtjjbhpbmfpodeaaW.PrintMore
attribute [local go_sem] max2_int min2_int max_two min_two max_three min_three max_four min_four   -- for this text's walks alone
set_option linter.unusedVariables false
set_option linter.unusedSimpArgs false

end Go.Proofs.Ytjjbhpbmfpodeaa.X
end
section
namespace Go.Proofs.Ytjjbhpbmfpodeaa.X
open Go.RowKit Go.Proofs.YtjjbhpbmfpodeaaW.PrintWords Go.Proofs.YtjjbhpbmfpodeaaW.PrintLast Go.Proofs.YtjjbhpbmfpodeaaW.PrintMore
attribute [local go_sem] max2_int min2_int max_two min_two max_three min_three max_four min_four   -- for this text's walks alone
set_option linter.unusedVariables false
set_option linter.unusedSimpArgs false

end Go.Proofs.Ytjjbhpbmfpodeaa.X
end
section
namespace Go.Proofs.Ytjjbhpbmfpodeaa.PB
open Go.RowKit Go.Proofs.Ytjjbhpbmfpodeaa.X Go.Proofs.YtjjbhpbmfpodeaaW.PrintWords Go.Proofs.YtjjbhpbmfpodeaaW.PrintLast
set_option linter.unusedVariables false
set_option linter.unusedSimpArgs false

theorem lab_cut {c : Int} {x r : List Int} (h3 : (x.length : Int) = c) : (x ++ r).take c.toNat = x ∧ (x ++ r).drop c.toNat = r := by
  have hc : c.toNat = x.length := by omega
  rw [hc]
  exact ⟨List.take_left, List.drop_left⟩

theorem drop_name {q : List Int} (hb : bytesB q = true) : (bytesOf (strOfNums (q ++ [0]))).dropLast = q := by
  rw [str_bytes (bytesB_append.2 ⟨hb, by decide⟩)]; simp

theorem check_some {s : ByteArray} (hs : s.size ≤ 2000000) : ∃ c, name_Check.f s = some c := by
  unfold name_Check.f name_Labels.f
  rw [if_pos hs]
  exact ⟨_, rfl⟩
end Go.Proofs.Ytjjbhpbmfpodeaa.PB
end
section
namespace Go.Proofs.Ytjjbhpbmfpodeaa.PB
open Go.RowKit Go.Proofs.Ytjjbhpbmfpodeaa.X Go.Proofs.YtjjbhpbmfpodeaaW.PrintWords Go.Proofs.YtjjbhpbmfpodeaaW.PrintLast
theorem rdT {α : Type} {l : List α} {z : α} {i : Int} (h0 : 0 ≤ i) (h1 : i < l.length) : l.getD i.toNat z = l[i.toNat]'(by omega) := by
  rw [List.getD_eq_getElem?_getD, List.getElem?_eq_getElem (by omega)]; rfl
theorem long5_loop (l : List S52) : ∀ (M : Nat) (i : Int), 0 ≤ i → i ≤ l.length → i + M = 61 → ∃ r, (∀ k, 2 * M + 2 ≤ k → ostiarylaw05_long.l0 k l i = some r) ∧ (r = false → l.length ≤ 60 ∧ ∀ (j : Nat) (hj : j < l.length), i ≤ j → (l[j]).f0.size ≤ 400) := by
  intro M
  induction M with
  | zero =>
    intro i h0 h1 hM
    refine ⟨decide ((l.length : Int) > 60), fun k hk => ?_, fun h => ?_⟩
    · obtain ⟨k, rfl⟩ : ∃ m, k = m + 2 := ⟨k - 2, by omega⟩
      rw [ostiarylaw05_long.l0]
      by_cases hlt : i < (l.length : Int)
      · rw [if_pos hlt, decide_eq_false (by omega), ostiarylaw05_long.j1, if_neg (by decide)]
      · rw [if_neg hlt, ostiarylaw05_long.j1, if_neg (by decide)]
    · have := of_decide_eq_false h
      exact ⟨by omega, fun j hj hij => by omega⟩
  | succ M ih =>
    intro i h0 h1 hM
    by_cases hlt : i < (l.length : Int)
    · have hr : rd_T52 l i = l[i.toNat]'(by omega) := by unfold rd_T52; exact rdT h0 hlt
      by_cases hb : ((l[i.toNat]'(by omega)).f0.size : Int) > 400
      · refine ⟨true, fun k hk => ?_, fun h => by cases h⟩
        obtain ⟨k, rfl⟩ : ∃ m, k = m + 2 := ⟨k - 2, by omega⟩
        rw [ostiarylaw05_long.l0, if_pos hlt, decide_eq_true (by omega), ostiarylaw05_long.j1, if_pos rfl, if_pos h0, if_pos hlt, hr, if_pos hb]
      · obtain ⟨r, g1, g2⟩ := ih (i + 1) (by omega) (by omega) (by omega)
        refine ⟨r, fun k hk => ?_, fun h => ⟨(g2 h).1, fun j hj hij => ?_⟩⟩
        · obtain ⟨k, rfl⟩ : ∃ m, k = m + 2 := ⟨k - 2, by omega⟩
          rw [ostiarylaw05_long.l0, if_pos hlt, decide_eq_true (by omega), ostiarylaw05_long.j1, if_pos rfl, if_pos h0, if_pos hlt, hr, if_neg hb, w64 (by omega) (by omega)]
          exact g1 k (by omega)
        · by_cases e : (j : Int) = i
          · have : j = i.toNat := by omega
            subst this
            omega
          · exact (g2 h).2 j hj (by omega)
    · refine ⟨decide ((l.length : Int) > 60), fun k hk => ?_, fun h => ?_⟩
      · obtain ⟨k, rfl⟩ : ∃ m, k = m + 2 := ⟨k - 2, by omega⟩
        rw [ostiarylaw05_long.l0, if_neg hlt, ostiarylaw05_long.j1, if_neg (by decide)]
      · have := of_decide_eq_false h
        exact ⟨by omega, fun j hj hij => by omega⟩
theorem long5 (l : List S52) : ∃ r, ostiarylaw05_long.f 130 l = some r ∧ (r = false → l.length ≤ 60 ∧ ∀ x ∈ l, x.f0.size ≤ 400) := by
  obtain ⟨r, g1, g2⟩ := long5_loop l 61 0 (by omega) (by omega) (by omega)
  refine ⟨r, g1 130 (by omega), fun h => ⟨(g2 h).1, fun x hx => ?_⟩⟩
  obtain ⟨j, hj, rfl⟩ := List.mem_iff_getElem.1 hx
  exact (g2 h).2 j hj (by omega)
end Go.Proofs.Ytjjbhpbmfpodeaa.PB
namespace Go.Proofs.Ytjjbhpbmfpodeaa.X
open Go.RowKit Go.Maps Go.Proofs.Ytjjbhpbmfpodeaa.PB Go.Proofs.YtjjbhpbmfpodeaaW.PrintWords Go.Proofs.YtjjbhpbmfpodeaaW.PrintLast Go.Proofs.YtjjbhpbmfpodeaaW.PrintMore
set_option linter.unusedVariables false
set_option linter.unusedSimpArgs false
attribute [local go_sem] Oper.semAt_some

theorem blk_type {w : World} {g t t' : Nat} {cs cs' : Array Value} {z z' : Nat × Nat} (h : w.heap[g]? = some (.cells cs t z)) (h' : w.heap[g]? = some (.cells cs' t' z')) : t = t' := by
  rw [h] at h'; injection h' with h'; injection h'
theorem Pk.apart {w : World} {bp bm nn base bq nn' : Nat} {v : Value} {S S' : PS} (hp : Pk w bp bm nn S) (hq : Rq w base bq nn' v S') : some bp ≠ v.ownBlock ∧ some bm ≠ v.ownBlock ∧ bp ≠ bq ∧ bm ≠ bq := by
  refine ⟨row_other hq.row hp.cell (by decide), row_map hq.row hp.map, ?_, ?_⟩
  · rintro rfl
    exact absurd (blk_type hp.cell hq.cell) (by decide)
  · rintro rfl
    obtain ⟨D, ⟨es, cl, hb, _⟩, _⟩ := hp.map
    rw [hq.cell] at hb
    cases hb
theorem Full.apart {w : World} {b bp bm nn : Nat} {o : Value} {xs : List Int} {S : PS} (hf : Full w b o xs) (hp : Pk w bp bm nn S) : some bp ≠ o.ownBlock ∧ some bm ≠ o.ownBlock := by
  rcases hf with ⟨rfl, _⟩ | ⟨g, zs, rfl, _, hg, _⟩
  · exact ⟨(by simp [Value.ownBlock]), (by simp [Value.ownBlock])⟩
  · refine ⟨fun e => ?_, fun e => ?_⟩
    · injection e with e
      subst e
      exact absurd (blk_type hp.cell hg) (by decide)
    · injection e with e
      subst e
      obtain ⟨D, ⟨es, cl, hb, _⟩, _⟩ := hp.map
      rw [hg] at hb
      cases hb
theorem Pk.more {w : World} {bp bm nn nn' : Nat} {S : PS} (h : Pk w bp bm nn S) (hn : nn ≤ nn') : Pk w bp bm nn' S := ⟨h.cell, h.map.mono hn, h.tails, h.end_⟩
/-- The document's packer as it is made. -/
theorem Rq.made (w : World) : Rq (w.alloc (.cells #[.slice none 0 0, .int .i64 0] 64)) w.heap.size w.heap.size 0 (.slice none 0 0) ⟨[], 0⟩ :=
  ⟨blk_new w _, World.ownsRow_nil _ _ _ _, Tails.nil, by simp, by simp, Nat.le_refl _⟩
theorem Pk.alloc {w : World} {bp bm nn : Nat} {S : PS} (h : Pk w bp bm nn S) (o : Obj) : Pk (w.alloc o) bp bm nn S := h.below (below_alloc (Below.refl _ _) o)

end Go.Proofs.Ytjjbhpbmfpodeaa.X
end
section
namespace Go.Proofs.Ytjjbhpbmfpodeaa.PB
open Go.RowKit Go.Proofs.Ytjjbhpbmfpodeaa.X Go.Proofs.YtjjbhpbmfpodeaaW.PrintWords Go.Proofs.YtjjbhpbmfpodeaaW.PrintLast
set_option linter.unusedVariables false
set_option linter.unusedSimpArgs false

/-- x stands in l from place k on. -/
def Here (l : List Int) (k : Nat) (x : List Int) : Prop := ∃ u v, l = u ++ x ++ v ∧ u.length = k
theorem Here.len {l : List Int} {k : Nat} {x : List Int} (h : Here l k x) : k + x.length ≤ l.length := by
  obtain ⟨u, v, rfl, rfl⟩ := h
  simp only [List.length_append]; omega
theorem Here.append {l : List Int} {k : Nat} {x : List Int} (h : Here l k x) (m : List Int) : Here (l ++ m) k x := by
  obtain ⟨u, v, rfl, rfl⟩ := h
  exact ⟨u, v ++ m, by simp, rfl⟩
theorem Here.left {l : List Int} {k : Nat} {x y : List Int} (h : Here l k (x ++ y)) : Here l k x := by
  obtain ⟨u, v, rfl, rfl⟩ := h
  exact ⟨u, y ++ v, by simp, rfl⟩
theorem Here.end_ (b x : List Int) : Here (b ++ x) b.length x := ⟨b, [], by simp, rfl⟩
theorem Here.rd {l : List Int} {k : Nat} {c : Int} {x : List Int} (h : Here l k (c :: x)) : rd l (k : Int) = c := by
  obtain ⟨u, v, rfl, rfl⟩ := h
  unfold Go.Proofs.YtjjbhpbmfpodeaaW.PrintWords.rd
  simp
theorem Here.take {l : List Int} {k : Nat} {x : List Int} (h : Here l k x) : (l.drop k).take x.length = x := by
  obtain ⟨u, v, rfl, rfl⟩ := h
  rw [List.append_assoc, List.drop_left, List.take_left]

/-- Whole labels q and the root's byte stand in l from place k on, in n bytes there; a pointer there goes below m, and on from there. -/
inductive Stands (l : List Int) : Nat → Nat → List Int → Nat → Prop
  | lit (m k : Nat) : Here l k [0] → Stands l m k [] 1
  | lab (m k : Nat) (c : Int) (x q : List Int) (n : Nat) : 1 ≤ c → c ≤ 63 → (x.length : Int) = c → Here l k (c :: x) → Stands l m (k + (c :: x).length) q n → Stands l m k (c :: (x ++ q)) ((c :: x).length + n)
  | ptr (m k t : Nat) (q : List Int) (n : Nat) : Here l k (ptr t) → t < 16384 → t < m → Stands l t t q n → Stands l m k q 2

theorem Stands.append {l : List Int} {m k : Nat} {q : List Int} {n : Nat} (h : Stands l m k q n) (e : List Int) : Stands (l ++ e) m k q n := by
  induction h with
  | lit m k h => exact .lit m k (h.append e)
  | lab m k c x q n h1 h2 h3 h4 _ ih => exact .lab m k c x q n h1 h2 h3 (h4.append e) ih
  | ptr m k t q n h1 h2 h3 _ ih => exact .ptr m k t q n (h1.append e) h2 h3 ih
theorem Stands.mono {l : List Int} {m k : Nat} {q : List Int} {n : Nat} (h : Stands l m k q n) : ∀ {m' : Nat}, m ≤ m' → Stands l m' k q n := by
  induction h with
  | lit m k h => exact fun _ => .lit _ k h
  | lab m k c x q n h1 h2 h3 h4 _ ih => exact fun hm => .lab _ k c x q n h1 h2 h3 h4 (ih hm)
  | ptr m k t q n h1 h2 h3 h4 ih => exact fun hm => .ptr _ k t q n h1 h2 (by omega) h4
theorem Stands.lt {l : List Int} {m k : Nat} {q : List Int} {n : Nat} (h : Stands l m k q n) : k + n ≤ l.length ∧ 1 ≤ n := by
  induction h with
  | lit m k h => have := h.len; simp only [List.length_cons, List.length_nil] at this; omega
  | lab m k c x q n h1 h2 h3 h4 _ ih => omega
  | ptr m k t q n h1 h2 h3 h4 ih => have := h1.len; simp only [List.length_cons, List.length_nil, PB.ptr] at this; omega
/-- What stands is read. -/
theorem Stands.read {l : List Int} {m k : Nat} {q : List Int} {n : Nat} (h : Stands l m k q n) (hb : bytesB l = true) (hl : l.length ≤ 140737488351232) (a : Int) :
    ∀ (out : List Int) (behind : Int), out.length + q.length ≤ 254 → ∃ M, ∀ kk, M < kk → wire_Read.l0 kk l a out m k behind = some (strOfNums (out ++ q ++ [0]), (if behind < 0 then ((k + n : Nat) : Int) else behind), 0, 0) := by
  induction h with
  | lit m k h =>
    intro out behind ho
    have hlen := h.len
    simp only [List.length_cons, List.length_nil] at hlen ho
    refine ⟨0, fun kk hk => ?_⟩
    obtain ⟨kk, rfl⟩ : ∃ j, kk = j + 1 := ⟨kk - 1, by omega⟩
    rw [wire_Read.l0, if_neg (by omega), if_pos (by omega), if_pos (by omega), h.rd, w64 (by omega) (by omega), if_pos rfl, w64 (by omega) (by omega), List.append_nil]
    by_cases hbe : behind < 0
    · rw [if_pos hbe, if_pos hbe, if_pos (by omega)]; rfl
    · rw [if_neg hbe, if_neg hbe, if_pos (by omega)]
  | lab m k c x q n h1 h2 h3 h4 _ ih =>
    intro out behind ho
    have hlen := h4.len
    simp only [List.length_cons, List.length_append] at hlen ho
    obtain ⟨M, hM⟩ := ih (out ++ (c :: x)) behind (by simp only [List.length_append, List.length_cons]; omega)
    refine ⟨M + 1, fun kk hk => ?_⟩
    obtain ⟨kk, rfl⟩ : ∃ j, kk = j + 2 := ⟨kk - 2, by omega⟩
    have e1 : (l.drop (k : Int).toNat).take (c + 1).toNat = c :: x := by
      have e := h4.take
      have e2 : (c + 1).toNat = (c :: x).length := by simp only [List.length_cons]; omega
      rw [e2]; exact e
    have e3 : ((k : Int) + (c + 1)) = ((k + (c :: x).length : Nat) : Int) := by simp only [List.length_cons]; omega
    rw [wire_Read.l0, if_neg (by omega), if_pos (by omega), if_pos (by omega), h4.rd, w64 (x := c) (by omega) (by omega), if_neg (by omega), if_neg (by omega), if_neg (by omega), w64 (x := c + 1) (by omega) (by omega), bytes_ok hl (by omega) (by omega) (by omega), e1, e3]
    simp only [Option.bind_some]
    rw [if_pos trivial, if_pos (by simp only [List.length_cons]; omega), if_neg (by simp only [List.length_append, List.length_cons]; omega), hM _ (by omega)]
    have e4 : out ++ c :: x ++ q ++ [0] = out ++ c :: (x ++ q) ++ [0] := by simp
    rw [e4, Nat.add_assoc]
  | ptr m k t q n h1 h2 h3 _ ih =>
    intro out behind ho
    have hlen := h1.len
    simp only [List.length_cons, List.length_nil, PB.ptr] at hlen
    obtain ⟨M, hM⟩ := ih out (if behind < 0 then ((k + 2 : Nat) : Int) else behind) ho
    refine ⟨M + 1, fun kk hk => ?_⟩
    obtain ⟨kk, rfl⟩ : ∃ j, kk = j + 1 := ⟨kk - 1, by omega⟩
    have e1 := h1.take
    have e2 : (l.drop (k : Int).toNat).take (2 : Int).toNat = PB.ptr t := e1
    have hg := get16_of (get_ok (a := (k : Int)) (s := 2) hb (.inl rfl) (by omega) (by omega) (by omega))
    rw [e2] at hg
    have hv : beVal (PB.ptr (t : Int)) = 49152 + t := by
      simp only [PB.ptr, beVal, List.foldl_cons, List.foldl_nil]; omega
    have hand := and14 (n := 49152 + (t : Int)) (by omega) (by omega)
    rw [show (49152 + (t : Int)) % 16384 = t by omega] at hand
    rw [wire_Read.l0, if_neg (by omega), if_pos (by omega), if_pos (by omega), h1.rd, w64 (x := 192 + (t : Int) / 256) (by omega) (by omega), if_neg (by omega), if_pos (by omega), hg]
    simp only [Option.bind_some]
    rw [if_pos trivial, hv, hand, if_neg (show ¬ ((t : Int) ≥ (m : Int)) by omega)]
    have := hM kk (by omega)
    by_cases hbe : behind < 0
    · rw [if_pos hbe] at this ⊢
      rw [if_pos hbe, show ((k : Int) + 2) = ((k + 2 : Nat) : Int) by omega, this, if_neg (by omega)]
    · rw [if_neg hbe] at this ⊢
      rw [if_neg hbe, this, if_neg hbe]

/-- A name that stands at a place is what wire.Read tells there. -/
theorem Stands.read_f {l : List Int} {k : Nat} {q : List Int} {n : Nat} (h : Stands l k k q n) (hb : bytesB l = true) (hl : l.length ≤ 140737488351232) (hq : q.length ≤ 254) :
    ∃ M, ∀ kk, M < kk → wire_Read.f kk l k = some (strOfNums (q ++ [0]), ((k + n : Nat) : Int), 0, 0) := by
  obtain ⟨M, hM⟩ := h.read hb hl k [] (-1) (by simpa using hq)
  have hlt := h.lt
  refine ⟨M + 1, fun kk hk => ?_⟩
  obtain ⟨kk, rfl⟩ : ∃ j, kk = j + 1 := ⟨kk - 1, by omega⟩
  unfold wire_Read.f
  rw [if_neg (by omega), decide_eq_false (by omega), wire_Read.j0, if_neg (by decide), hM kk (by omega)]
  rfl

/-- Each tail that is known stands at its place. -/
def Good (b : List Int) (L : List (ByteArray × Int)) : Prop := ∀ x ∈ L, ∃ (q : List Int) (t n : Nat), x = (strOfNums (q ++ [0]), (t : Int)) ∧ bytesB q = true ∧ q.length ≤ 254 ∧ t < 16384 ∧ Stands b t t q n
theorem Good.nil (b : List Int) : Good b [] := fun x h => by cases h
theorem Good.append {b : List Int} {L : List (ByteArray × Int)} (h : Good b L) (e : List Int) : Good (b ++ e) L := fun x hx => by
  obtain ⟨q, t, n, h1, h2, h3, h4, h5⟩ := h x hx
  exact ⟨q, t, n, h1, h2, h3, h4, h5.append e⟩
theorem Good.both {b : List Int} {L M : List (ByteArray × Int)} (h : Good b L) (g : Good b M) : Good b (L ++ M) := fun x hx => (List.mem_append.1 hx).elim (h x) (g x)

theorem pk_stands {b : List Int} {L : List (ByteArray × Int)} (hg : Good b L) : ∀ (k : Nat) (p q : List Int) (fr : List (ByteArray × Int)), Lab q → bytesB q = true → p.length + q.length ≤ 254 → q.length < k →
    ∃ rest, (pk L b.length k p q fr).1 = p ++ rest ∧ bytesB rest = true ∧ 1 ≤ rest.length ∧ rest.length ≤ q.length + 1 ∧ Stands (b ++ (p ++ rest)) b.length (b.length + p.length) q rest.length ∧
      ∀ x ∈ (pk L b.length k p q fr).2, x ∈ fr ∨ ∃ (r : List Int) (t n : Nat), x = (strOfNums (r ++ [0]), (t : Int)) ∧ bytesB r = true ∧ r.length ≤ 254 ∧ t < 16384 ∧ Stands (b ++ (p ++ rest)) t t r n
  | 0, p, q, fr, _, _, _, h => by omega
  | k + 1, p, [], fr, hq, hqb, hl, hk => by
    refine ⟨[0], by rw [pk], by decide, by simp, by simp, ?_, fun x hx => .inl (by rw [pk] at hx; exact hx)⟩
    refine .lit _ _ ?_
    have := Here.end_ (b ++ p) [0]
    rwa [List.append_assoc, List.length_append] at this
  | k + 1, p, c :: r, fr, hq, hqb, hl, hk => by
    rw [pk]
    cases hlk : lookL L (strOfNums (c :: r ++ [0])) with
    | some t =>
      obtain ⟨q', t', n, h1, h2, h3, h4, h5⟩ := hg _ (lookL_mem hlk)
      injection h1 with h1 h1'
      have e := str_inj (bytesB_append.2 ⟨hqb, by decide⟩) (bytesB_append.2 ⟨h2, by decide⟩) h1
      have e := List.append_cancel_right e
      subst h1'
      have hq2 : 2 ≤ (c :: r).length := by
        have := hq.ne_one
        simp only [List.length_cons] at this ⊢
        omega
      have hlt := h5.lt
      refine ⟨ptr t', rfl, ?_, by simp [ptr], by simp only [ptr, List.length_cons, List.length_nil] at hq2 ⊢; omega, ?_, fun x hx => .inl hx⟩
      · simp only [bytesB, ptr, List.all_cons, List.all_nil, Bool.and_true, Bool.and_eq_true, decide_eq_true_eq]; omega
      · rw [e]
        refine Stands.ptr _ _ t' q' n ?_ h4 (by omega) (h5.append _)
        have := Here.end_ (b ++ p) (ptr t')
        rwa [List.append_assoc, List.length_append] at this
    | none =>
      show ∃ rest, (pk L b.length k (p ++ c :: r.take c.toNat) (r.drop c.toNat) _).1 = p ++ rest ∧ _
      cases hq with
      | cons c x r' h1 h2 h3 h4 =>
        obtain ⟨e1, e2⟩ := lab_cut (r := r') h3
        rw [e1, e2]
        simp only [List.length_cons, List.length_append] at hl hk
        have hcb : bytesB (c :: x) = true ∧ bytesB r' = true := by
          have e : c :: (x ++ r') = (c :: x) ++ r' := rfl
          rw [e] at hqb; exact bytesB_append.1 hqb
        obtain ⟨rest, g1, g2, g3, g4, g5, g6⟩ := pk_stands hg k (p ++ c :: x) r' (if (b.length : Int) + p.length < 16384 then fr ++ [(strOfNums (c :: (x ++ r') ++ [0]), (b.length : Int) + p.length)] else fr) h4 hcb.2 (by simp only [List.length_append, List.length_cons]; omega) (by omega)
        have ee : b ++ (p ++ c :: x ++ rest) = b ++ (p ++ (c :: x ++ rest)) := by simp
        rw [ee] at g5 g6
        have hst : Stands (b ++ (p ++ (c :: x ++ rest))) b.length (b.length + p.length) (c :: (x ++ r')) ((c :: x).length + rest.length) := by
          refine .lab _ _ c x r' _ h1 h2 h3 ?_ ?_
          · have := (Here.end_ (b ++ p) (c :: x ++ rest)).left
            rwa [List.append_assoc, List.length_append] at this
          · rw [List.length_append] at g5
            rw [Nat.add_assoc]; exact g5
        refine ⟨c :: x ++ rest, by rw [g1]; simp, bytesB_append.2 ⟨hcb.1, g2⟩, by simp, by simp only [List.length_append, List.length_cons]; omega, ?_, fun y hy => ?_⟩
        · rw [List.length_append]; exact hst
        · rcases g6 y hy with hy | hy
          · split at hy
            · rename_i hlow
              rcases List.mem_append.1 hy with hy | hy
              · exact .inl hy
              · simp only [List.mem_singleton] at hy
                subst hy
                refine .inr ⟨c :: (x ++ r'), b.length + p.length, _, by rw [Int.natCast_add], hqb, by simp only [List.length_cons, List.length_append]; omega, by omega, hst.mono (by omega)⟩
            · exact .inl hy
          · exact .inr hy

/-- A name told at the end of the bytes stands there, and so do all tails that are known then. -/
theorem packF_stands {b : List Int} {S : PS} (hg : Good b S.L) (hE : S.E ≤ b.length) (hb : b.length ≤ 65535) {n : ByteArray} (hc : name_Check.f n = some 0) :
    ∃ (q x : List Int) (S' : PS), packF S b.length n 0 = (x, 0, S') ∧ bytesB x = true ∧ 1 ≤ x.length ∧ x.length ≤ n.size ∧ n = strOfNums (q ++ [0]) ∧ q.length ≤ 254 ∧ Stands (b ++ x) b.length b.length q x.length ∧ Good (b ++ x) S'.L ∧ S'.E = ((b ++ x).length : Int) := by
  obtain ⟨q, h1, h2, h3, rfl⟩ := check_form hc
  obtain ⟨rest, g1, g2, g3, g4, g5, g6⟩ := pk_stands hg 256 [] q [] h1 h2 (by simpa using h3) (by omega)
  unfold packF
  rw [if_neg (by simp), if_neg (by omega), if_neg (by omega), drop_name h2]
  simp only [List.nil_append, List.length_nil, Nat.add_zero] at g1 g5 g6
  rw [g1]
  refine ⟨q, rest, _, rfl, g2, g3, by rw [strOfNums_size]; simpa using g4, rfl, h3, g5, (hg.append rest).both fun x hx => ?_, by simp⟩
  rcases g6 x hx with h | h
  · cases h
  · exact h
end Go.Proofs.Ytjjbhpbmfpodeaa.PB
end
section
namespace Go.Proofs.Ytjjbhpbmfpodeaa.X
open Go.RowKit Go.Maps Go.Proofs.Ytjjbhpbmfpodeaa.PB Go.Proofs.YtjjbhpbmfpodeaaW.PrintWords Go.Proofs.YtjjbhpbmfpodeaaW.PrintLast Go.Proofs.YtjjbhpbmfpodeaaW.PrintMore
set_option linter.unusedVariables false
set_option linter.unusedSimpArgs false
attribute [local go_sem] Oper.semAt_some

theorem slice_to (A : Option Addr) (L c : Nat) (P : Int) (h0 : 0 ≤ P) (h1 : P ≤ L) (h2 : L ≤ c) (hn : A = none → c = 0) (W : World) : (Instr.slice 22 (.slice A L c) none (some (.int .i64 P)) none).run Try.prog W = .ok (.slice A P.toNat c) W := by
  obtain ⟨p, rfl⟩ := Int.eq_ofNat_of_zero_le h0
  simp only [go_sem, Try.underlying22]
  simp
  rw [run_sliceBound W .i64 (p : Int) c .sliceAcap (by omega) (by omega)]
  cases A with
  | none =>
    have := hn rfl
    have : p = 0 := by omega
    subst this
    simp [*]
  | some a =>
    simp [Addr.add]
theorem Pkd.row {w w' : World} {bp bm nn base e sz n : Nat} {v : Value} {xs : List Value} {S : PS} (h : Pkd w w' bm bp) (hp : Pk w bp bm nn S) (hr : w.ownsRow base e sz v n xs) (he : (57 : Nat) ≠ e) : w'.ownsRow base e sz v n xs := by
  have h1 := row_other hr hp.cell he
  have h2 := row_map hr hp.map
  obtain ⟨w1, k1, k2⟩ := h
  exact ro_grown (ro_grown hr k1 (.inr (fun e => h2 e.symm))) k2 (.inr (fun e => h1 e.symm))
theorem info3r : (Try.prog.info? 3).map (fun i => (i.zero, i.size, i.bytes)) = some (some (.int .i64 0), 1, 8) := by kernel_rfl
theorem info9r : (Try.prog.info? 9).map (fun i => (i.zero, i.size, i.bytes)) = some (some (.string ⟨#[]⟩), 1, 16) := by kernel_rfl
theorem own_lit1 (W : World) (u : Value) (e : TypeId) : (W.alloc (.cells #[u] e)).ownsRow W.heap.size e 1 (.slice (some ⟨W.heap.size, 0, none⟩) 1 1) 1 [u] :=
  World.ownsRow_lit (e := e) (size := 1) W #[u] 1 (Nat.le_refl _) (by decide) rfl
/-- Two rows of different kinds lie in different blocks. -/
theorem rows_ne {w : World} {base e sz n base' e' sz' n' : Nat} {v v' : Value} {xs ys : List Value} (h : w.ownsRow base e sz v n xs) (h' : w.ownsRow base' e' sz' v' n' ys) (he : e ≠ e') : v.ownBlock = none ∨ v.ownBlock ≠ v'.ownBlock := by
  cases hv : v.ownBlock with
  | none => exact .inl rfl
  | some k =>
    obtain ⟨cs, hc⟩ := own_typed h k hv
    exact .inr (row_other h' hc he)

def ints (done : List (List Int × Nat × Nat)) : List Value := done.map fun d => .int .i64 (d.2.1 : Int)
def strs (done : List (List Int × Nat × Nat)) : List Value := done.map fun d => .string (strOfNums (d.1 ++ [0]))
/-- The bytes, the places and the names so far. -/
structure WB (w : World) (base : Nat) (b p n : Value) (xs : List Int) (done : List (List Int × Nat × Nat)) : Prop where
  fb : Full w base b xs
  fp : w.ownsRow base 3 1 p done.length (ints done)
  fn : w.ownsRow base 9 1 n done.length (strs done)
theorem WB.below {w w' : World} {base : Nat} {b p n : Value} {xs : List Int} {done : List (List Int × Nat × Nat)} (h : WB w base b p n xs done) (hb : Below w.heap.size w w') : WB w' base b p n xs done :=
  ⟨h.fb.below hb, ro_below h.fp hb, ro_below h.fn hb⟩
theorem WB.pkd {w w' : World} {base bp bm nn : Nat} {b p n : Value} {xs : List Int} {done : List (List Int × Nat × Nat)} {S : PS} (h : WB w base b p n xs done) (hd : Pkd w w' bm bp) (hp : Pk w bp bm nn S) : WB w' base b p n xs done :=
  ⟨hd.full h.fb (fun e => (h.fb.apart hp).2 e.symm) (fun e => (h.fb.apart hp).1 e.symm), hd.row hp h.fp (by decide), hd.row hp h.fn (by decide)⟩
/-- What is known of them. -/
structure WK (xs : List Int) (S : PS) (done : List (List Int × Nat × Nat)) : Prop where
  good : PB.Good xs S.L
  end_ : S.E ≤ xs.length
  bytes : bytesB xs = true
  stand : ∀ d ∈ done, d.1.length ≤ 254 ∧ Stands xs d.2.1 d.2.1 d.1 d.2.2
theorem WK.start : WK [] ⟨[], 0⟩ [] := ⟨PB.Good.nil _, by simp, rfl, by simp⟩
theorem WK.append {xs : List Int} {S : PS} {done : List (List Int × Nat × Nat)} (h : WK xs S done) {ys : List Int} (hy : bytesB ys = true) : WK (xs ++ ys) S done :=
  ⟨h.good.append ys, by rw [List.length_append]; have := h.end_; omega, bytesB_append.2 ⟨h.bytes, hy⟩, fun d hd => ⟨(h.stand d hd).1, (h.stand d hd).2.append ys⟩⟩
theorem WK.told {xs : List Int} {S S' : PS} {done : List (List Int × Nat × Nat)} (h : WK xs S done) {q x : List Int} (hx : bytesB x = true) (hq : q.length ≤ 254) (hs : Stands (xs ++ x) xs.length xs.length q x.length) (hg : PB.Good (xs ++ x) S'.L) (hE : S'.E = ((xs ++ x).length : Int)) :
    WK (xs ++ x) S' (done ++ [(q, xs.length, x.length)]) :=
  ⟨hg, by omega, bytesB_append.2 ⟨h.bytes, hx⟩, fun d hd => by
    rcases List.mem_append.1 hd with hd | hd
    · exact ⟨(h.stand d hd).1, (h.stand d hd).2.append x⟩
    · simp only [List.mem_singleton] at hd
      subst hd
      exact ⟨hq, hs⟩⟩
theorem ints_snoc (done : List (List Int × Nat × Nat)) (d : List Int × Nat × Nat) : ints (done ++ [d]) = ints done ++ [.int .i64 (d.2.1 : Int)] := by simp [ints]
theorem strs_snoc (done : List (List Int × Nat × Nat)) (d : List Int × Nat × Nat) : strs (done ++ [d]) = strs done ++ [.string (strOfNums (d.1 ++ [0]))] := by simp [strs]
theorem row_at {w : World} {base e n : Nat} {v : Value} {xs : List Value} (h : w.ownsRow base e 1 v n xs) {j : Int} (h0 : 0 ≤ j) (h1 : j < n) {u : Value} (hu : xs[j.toNat]? = some u) : ∃ g cap, v = .slice (some ⟨g, 0, none⟩) n cap ∧ w.cell? ⟨g, j.toNat, none⟩ = some u := by
  rcases h.2 with ⟨_, h2⟩ | ⟨g, cap, cur, rfl, hb, hg, _⟩
  · omega
  · refine ⟨g, cap, rfl, ?_⟩
    rw [h.cellAt j.toNat (by omega), hu]

section
variable {W w9 : World} {base e sz n : Nat} {v : Value} {ys : List Value}
theorem grow_row_full {b : Nat} {o : Value} {xs : List Int} (hr : W.ownsRow base e sz v n ys) (hg : W.grownBy w9 v.ownBlock) (hf : Full W b o xs) (he : (5 : Nat) ≠ e) : Full w9 b o xs := hf.grown hg (row_full_ne hf hr he)
theorem grow_row_pk {bp bm nn : Nat} {S : PS} (hr : W.ownsRow base e sz v n ys) (hg : W.grownBy w9 v.ownBlock) (hp : Pk W bp bm nn S) (he : (57 : Nat) ≠ e) : Pk w9 bp bm nn S := hp.grown hg (row_other hr hp.cell he) (row_map hr hp.map)
theorem grow_row_row {base' e' sz' n' : Nat} {v' : Value} {zs : List Value} (hr : W.ownsRow base e sz v n ys) (hg : W.grownBy w9 v.ownBlock) (hr' : W.ownsRow base' e' sz' v' n' zs) (he : e' ≠ e) : w9.ownsRow base' e' sz' v' n' zs := ro_grown hr' hg (rows_ne hr' hr he)
theorem grow_row_below {w0 : World} (hr : W.ownsRow base e sz v n ys) (hg : W.grownBy w9 v.ownBlock) (hb : Below w0.heap.size w0 W) (h : w0.heap.size ≤ base) : Below w0.heap.size w0 w9 := hb.grown hg hb.size (fun j e => by have := (ro_lt hr j e).1; omega)
end
theorem WB.alloc {w : World} {base : Nat} {b p n : Value} {xs : List Int} {done : List (List Int × Nat × Nat)} (h : WB w base b p n xs done) (o : Obj) : WB (w.alloc o) base b p n xs done := h.below (below_alloc (Below.refl _ _) o)

set_option maxHeartbeats 16000000 in
set_option maxRecDepth 100000 in
theorem ostiarylaw05_WireBack.in_ (n : Nat) (hn : 5 ≤ n) (A0 : Option Addr) (c0 : Nat) (l : List S52) (A1 : Option Addr) (c1 : Nat) (bt : List Int) (w : World) (hr0 : Kd.C k52 w A0 l.length l) (hc0 : l.length ≤ c0) (hwf : ∀ x ∈ l, (Lit.int .i64 x.f1).wf = true)
    (hr1 : Kd.C (Kd.int .u8) w A1 bt.length bt) (hc1 : bt.length ≤ c1) (hz1 : A1 = none → c1 = 0) (hb1 : bytesB bt = true) :
    CallsIn Fence.wide n Try.prog 10 #[.slice A0 l.length c0, .slice A1 bt.length c1] w fun e w' => e = .returned (.bool true) ∧ Below w.heap.size w w' := by
  obtain ⟨r, hlg, hlr⟩ := long5 l
  have HC := Aside0.mk hr0
  have HC0 := Aside0.mk hc0
  have HD := Aside0.mk hr1
  have HD0 := Aside0.mk (And.intro hc1 hz1)
  have HBT := Aside0.mk hb1
  have HWF := Aside0.mk hwf
  have HLG := Aside0.mk hlg
  clear hr0 hc0 hwf hlg hr1 hc1 hz1 hb1
  refine callsIn_of_wp Try.func10 rfl trivial ?_ rfl
  simp only [Try.ntmps10, List.size_toArray, List.length_cons, List.length_nil, Nat.reduceAdd, Nat.reduceSub, Array.replicate_succ, Array.replicate_zero, List.push_toArray, List.append_toArray, List.nil_append, List.cons_append]
  by_cases hbig : r = true ∨ 1000 < bt.length
  · have HR : Aside0 True := ⟨trivial⟩
    cases r with
    | true =>
      clear hlr hbig
      gi_wp2_with (first
        | (first | refine ⟨trivial, fun _ => by omega, ?_⟩ | refine ⟨trivial, ?_⟩); refine (callsIn_wide.2 (ostiarylaw05_awake.calls 12 true _ (awake5 (by omega)))).mono ?_; rintro e w1 ⟨rfl, hb1⟩; have HB1 := Aside0.mk hb1; clear hb1
        | (first | refine ⟨trivial, fun _ => by omega, ?_⟩ | refine ⟨trivial, ?_⟩); refine (wire_New.in_ (n - 1) (by omega) _).mono ?_; rintro e w2 ⟨rfl, hp2, hb2⟩; have HP2 := Aside0.mk hp2; have HB2 := Aside0.mk (HB1.out.trans (hb2.mono HB1.out.size)); clear hp2 hb2
        | (first | refine ⟨trivial, fun _ => by omega, ?_⟩ | refine ⟨trivial, ?_⟩); refine (callsIn_wide.2 (ostiarylaw05_long.calls 130 A0 c0 l true _ (Kd.C_below HC.out HB2.out) HC0.out HLG.out)).mono ?_; rintro e w3 ⟨rfl, nd, hw3⟩; have HB3 : Aside0 (Below w.heap.size w w3) := ⟨by rw [hw3]; exact pw_below_drewN HB2.out _⟩; have HP3 : Aside0 (Pk w3 _ _ 0 ⟨[], 0⟩) := ⟨by rw [hw3]; exact HP2.out.below (pw_below_drewN (Below.refl _ _) _)⟩; clear hw3)
      go_ret
      exact ⟨rfl, HB3.out⟩
    | false =>
      have hbb : 1000 < bt.length := hbig.resolve_left (by decide)
      have hb : decide ((1000 : Int) < (bt.length : Int)) = true := decide_eq_true (by omega)
      clear hbb
      clear hlr hbig
      gi_wp2_with (first
        | (first | refine ⟨trivial, fun _ => by omega, ?_⟩ | refine ⟨trivial, ?_⟩); refine (callsIn_wide.2 (ostiarylaw05_awake.calls 12 true _ (awake5 (by omega)))).mono ?_; rintro e w1 ⟨rfl, hb1⟩; have HB1 := Aside0.mk hb1; clear hb1
        | (first | refine ⟨trivial, fun _ => by omega, ?_⟩ | refine ⟨trivial, ?_⟩); refine (wire_New.in_ (n - 1) (by omega) _).mono ?_; rintro e w2 ⟨rfl, hp2, hb2⟩; have HP2 := Aside0.mk hp2; have HB2 := Aside0.mk (HB1.out.trans (hb2.mono HB1.out.size)); clear hp2 hb2
        | (first | refine ⟨trivial, fun _ => by omega, ?_⟩ | refine ⟨trivial, ?_⟩); refine (callsIn_wide.2 (ostiarylaw05_long.calls 130 A0 c0 l false _ (Kd.C_below HC.out HB2.out) HC0.out HLG.out)).mono ?_; rintro e w3 ⟨rfl, nd, hw3⟩; have HB3 : Aside0 (Below w.heap.size w w3) := ⟨by rw [hw3]; exact pw_below_drewN HB2.out _⟩; have HP3 : Aside0 (Pk w3 _ _ 0 ⟨[], 0⟩) := ⟨by rw [hw3]; exact HP2.out.below (pw_below_drewN (Below.refl _ _) _)⟩; clear hw3)
      go_ret
      exact ⟨rfl, HB3.out⟩
  · obtain rfl : r = false := Bool.eq_false_iff.2 (fun h => hbig (.inl h))
    have hb : decide ((1000 : Int) < (bt.length : Int)) = false := decide_eq_false (by omega)
    have HBL : Aside0 (bt.length ≤ 1000) := ⟨by omega⟩
    have HLS := Aside0.mk (hlr rfl)
    clear hlr hbig
    gi_wp2_with (first
      | (first | refine ⟨trivial, fun _ => by omega, ?_⟩ | refine ⟨trivial, ?_⟩); refine (callsIn_wide.2 (ostiarylaw05_awake.calls 12 true _ (awake5 (by omega)))).mono ?_; rintro e w1 ⟨rfl, hb1⟩; have HB1 := Aside0.mk hb1; clear hb1
      | (first | refine ⟨trivial, fun _ => by omega, ?_⟩ | refine ⟨trivial, ?_⟩); refine (wire_New.in_ (n - 1) (by omega) _).mono ?_; rintro e w2 ⟨rfl, hp2, hb2⟩; have HP2 := Aside0.mk hp2; have HB2 := Aside0.mk (HB1.out.trans (hb2.mono HB1.out.size)); clear hp2 hb2
      | (first | refine ⟨trivial, fun _ => by omega, ?_⟩ | refine ⟨trivial, ?_⟩); refine (callsIn_wide.2 (ostiarylaw05_long.calls 130 A0 c0 l false _ (Kd.C_below HC.out HB2.out) HC0.out HLG.out)).mono ?_; rintro e w3 ⟨rfl, nd, hw3⟩; have HB3 : Aside0 (Below w.heap.size w w3) := ⟨by rw [hw3]; exact pw_below_drewN HB2.out _⟩; have HP3 : Aside0 (Pk w3 _ _ 0 ⟨[], 0⟩) := ⟨by rw [hw3]; exact HP2.out.below (pw_below_drewN (Below.refl _ _) _)⟩; clear hw3)
    gi_loopw [7, 8, 9, 10] (fun b p nm i wr => ∃ (I : Int) (S : PS) (xs : List Int) (done : List (List Int × Nat × Nat)), i = .int .i64 I ∧ 0 ≤ I ∧ I ≤ (l.length : Int) ∧ Aside0 (Pk wr (w1.heap.size + 1) w1.heap.size (256 * I.toNat) S) ∧ Aside0 (WB wr w.heap.size b p nm xs done) ∧ Aside0 (WK xs S done) ∧ Aside0 (xs.length ≤ 66000 ∧ done.length ≤ I.toNat) ∧ Aside0 (Below w.heap.size w wr))
      (fun _ _ _ i _ => match i with | .int _ i => ((l.length : Int) - i).toNat | _ => 0)
    case atStart => exact ⟨0, _, [], [], rfl, by omega, by omega, HP3, ⟨⟨.inl ⟨rfl, rfl⟩, World.ownsRow_nil _ _ _ _, World.ownsRow_nil _ _ _ _⟩⟩, ⟨WK.start⟩, ⟨by simp⟩, HB3⟩
    case round =>
      obtain ⟨i, S, xs, done, rfl, h0, h1, HP, HW, HK, HX, HB⟩ := hrel
      obtain ⟨Ab, cb, rfl, hcb, hCb⟩ := HW.out.fb.reads
      obtain ⟨Ap, cp, rfl, hcp⟩ := ro_slice HW.out.fp
      obtain ⟨An, cn, rfl, hcn⟩ := ro_slice HW.out.fn
      have HCb := Aside0.mk (And.intro hcb hCb)
      clear hcb hCb hcp hcn
      by_cases hlt : i < (l.length : Int)
      · have d1 : decide (i < (l.length : Int)) = true := decide_eq_true hlt
        obtain ⟨ad, rfl, hx0, hx1, hx2⟩ := at_T52 (Kd.C_below HC.out HB.out) i h0 hlt
        have hil : i.toNat < l.length := by omega
        have hr : rd_T52 l i = l[i.toNat] := by unfold rd_T52; exact rdT h0 hlt
        have hmem : l[i.toNat] ∈ l := List.getElem_mem hil
        obtain ⟨⟨s, a1, raw⟩, hx⟩ : ∃ x, x = l[i.toNat] := ⟨_, rfl⟩
        rw [hr, ← hx] at hx0 hx1 hx2
        have HRD : Aside0 (rd_T52 l i = ⟨s, a1, raw⟩) := ⟨by rw [hr, ← hx]⟩
        rw [← hx] at hmem
        have hsz : s.size ≤ 400 := HLS.out.2 _ hmem
        have hwf := HWF.out _ hmem
        simp only at hx0 hx1 hx2 hwf
        obtain ⟨c, hc⟩ := check_some (s := s) (by omega)
        have HLT := Aside0.mk hlt
        have HI := Aside0.mk h0
        have HSZ := Aside0.mk hsz
        have HCK := Aside0.mk hc
        have HNN : Aside0 (256 * i.toNat ≤ 1000000) := ⟨by have := HLS.out.1; omega⟩
        have hwi : IntKind.i64.wrap (i + 1) = i + 1 := IntWalk.i64_in _ (by have := HLS.out.1; omega)
        have hp0 := eq_true h0
        have hq0 := eq_true hlt
        have HWF1 := Aside0.mk hwf
        clear hr hmem hx hil hsz hc hlt hwf
        by_cases hc0 : c = 0
        · subst hc0
          obtain ⟨P, hP⟩ : ∃ P, P = pick a1 ((bt.length : Int) + 1) := ⟨_, rfl⟩
          have hPr := pick_range a1 (n := (bt.length : Int) + 1) (by omega)
          have HPK : Aside0 (ostiarykit_Pick.f a1 ((bt.length : Int) + 1) = some P) := ⟨by rw [hP]; exact pick_ok HWF1.out (by have := HBL.out; omega)⟩
          rw [← hP] at hPr
          have hw5 : IntKind.i64.wrap ((bt.length : Int) + 1) = (bt.length : Int) + 1 := IntWalk.i64_in _ (by have := HBL.out; omega)
          have hsl := slice_to A1 bt.length c1 P hPr.1 (by omega) HD0.out.1 HD0.out.2
          obtain ⟨ys, hys⟩ : ∃ ys, ys = bt.take P.toNat := ⟨_, rfl⟩
          have hyl : ys.length = P.toNat := by rw [hys, List.length_take]; omega
          have HYB : Aside0 (bytesB ys = true) := ⟨by rw [hys]; exact bytesB_take _ HBT.out⟩
          have HYC : Aside0 (Kd.C (Kd.int .u8) w A1 ys.length ys) := ⟨by rw [hys]; exact Kd.C_take HD.out (by omega)⟩
          have HYL : Aside0 (ys.length ≤ 1000) := ⟨by have := HBL.out; omega⟩
          rw [← hyl] at hsl
          have HXL := Aside0.mk HX.out.1
          have HDN : Aside0 (done.length ≤ 60) := ⟨by have := HX.out.2; have := HLS.out.1; have := HLT.out; omega⟩
          clear hP hPr hys hyl
          by_cases hover : (65535 : Int) < (xs.length : Int) + (ys.length : Int)
          · have d2 : decide ((65535 : Int) < (xs.length : Int) + (ys.length : Int)) = true := decide_eq_true hover
            have HPF : Aside0 (packF S ((xs.length : Int) + (ys.length : Int)) s 0 = ([], 2, S)) := ⟨by unfold packF; rw [if_neg (by simp), if_pos (by omega)]⟩
            clear hover
            gi_wp2_with (first
            | (first | refine ⟨trivial, fun _ => by omega, ?_⟩ | refine ⟨trivial, ?_⟩); refine (callsIn_wide.2 (name_Check.calls s 0 _ HCK.out)).mono ?_; rintro e w5 ⟨rfl, hb5⟩; have HP5 := Aside0.mk (HP.out.below hb5); have HW5 := Aside0.mk (HW.out.below hb5); have HB5 := Aside0.mk (HB.out.trans (hb5.mono HB.out.size)); obtain ⟨_, ee, q0, q1, _⟩ := at_T52 (Kd.C_below HC.out HB5.out) i HI.out HLT.out; cases ee; rw [HRD.out] at q0 q1; simp only at q0 q1; clear hb5
            | (first | refine ⟨trivial, fun _ => by omega, ?_⟩ | refine ⟨trivial, ?_⟩); refine (callsIn_wide.2 (ostiarykit_Pick.calls a1 ((bt.length : Int) + 1) P _ HPK.out)).mono ?_; rintro e w6 ⟨rfl, nd6, hw6⟩; have HP6 : Aside0 (Pk w6 _ _ _ S) := ⟨by rw [hw6]; exact HP5.out.below (pw_below_drewN (Below.refl _ _) _)⟩; have HW6 : Aside0 (WB w6 w.heap.size _ _ _ xs done) := ⟨by rw [hw6]; exact HW5.out.below (pw_below_drewN (Below.refl _ _) _)⟩; have HB6 : Aside0 (Below w.heap.size w w6) := ⟨by rw [hw6]; exact pw_below_drewN HB5.out _⟩; clear hw6
            | (gi_at_builtin; refine wpListIn_append_full _ rfl _ _ rfl w.heap.size _ xs rfl HW6.out.fb A1 ys.length c1 ys rfl (Kd.C_below HYC.out HB6.out) (by have := HXL.out; have := HYL.out; omega) HB6.out.size ?_; intro v7 w7 hf7 hg7; have HW7 : Aside0 (WB w7 w.heap.size v7 _ _ (xs ++ ys) done) := ⟨⟨hf7, ro_grown HW6.out.fp hg7 (full_row_ne HW6.out.fb HW6.out.fp (by decide)), ro_grown HW6.out.fn hg7 (full_row_ne HW6.out.fb HW6.out.fn (by decide))⟩⟩; have HP7 := Aside0.mk (HP6.out.grown hg7 (HW6.out.fb.apart HP6.out).1 (HW6.out.fb.apart HP6.out).2); have HB7 := Aside0.mk (HB6.out.grown hg7 HB6.out.size (fun j e => (HW6.out.fb.base_ _ e).1)); obtain ⟨A7, c7, rfl, hc7, hC7⟩ := hf7.reads; replace HW7 : Aside0 (WB w7 w.heap.size (.slice A7 (xs.length + ys.length) c7) _ _ (xs ++ ys) done) := ⟨by rw [← List.length_append]; exact HW7.out⟩; obtain ⟨_, ee, q2, q3, _⟩ := at_T52 (Kd.C_below HC.out HB7.out) i HI.out HLT.out; cases ee; rw [HRD.out] at q2 q3; simp only at q2 q3; clear hf7 hg7 hc7 hC7)
            | (first | refine ⟨trivial, fun _ => by omega, ?_⟩ | refine ⟨trivial, ?_⟩); refine (Packer_Name.in_ (n - 1) (by omega) _ HP7.out HNN.out ((xs.length : Int) + (ys.length : Int)) s 0 HCK.out).mono ?_; rw [HPF.out]; rintro e w8 ⟨v8, rfl, hf8, hp8, hd8⟩; have HF8 := Aside0.mk hf8; have HP8 := Aside0.mk hp8; have HW8 := Aside0.mk (HW7.out.pkd hd8 HP7.out); have HB8 := Aside0.mk (hd8.below HB7.out HB7.out.size HB1.out.size (by have := HB1.out.size; omega)); have HS8 := Aside0.mk hd8.size; obtain ⟨A8, c8, rfl, hc8, hC8⟩ := HF8.out.reads; have HC8 := Aside0.mk (And.intro hc8 hC8); obtain ⟨_, ee, q4, q5, _⟩ := at_T52 (Kd.C_below HC.out HB8.out) i HI.out HLT.out; cases ee; rw [HRD.out] at q4 q5; simp only at q4 q5; clear hf8 hp8 hd8 hc8 hC8)
            go_ret
            exact ⟨rfl, HB8.out⟩
          · have d2 : decide ((65535 : Int) < (xs.length : Int) + (ys.length : Int)) = false := decide_eq_false hover
            have HWK := HK.out.append HYB.out
            have hll : ((xs ++ ys).length : Int) = (xs.length : Int) + (ys.length : Int) := by simp
            obtain ⟨q, x, S', e1, e2, e3, e4, e5, e6, e7, e8, e9⟩ := packF_stands HWK.good HWK.end_ (by omega) HCK.out
            rw [hll] at e1
            have HPF := Aside0.mk e1
            have HXB := Aside0.mk e2
            have HXN := Aside0.mk (And.intro e3 e4)
            have HE5 := Aside0.mk e5
            have HTO := Aside0.mk (HWK.told e2 e6 e7 e8 e9)
            have HOV : Aside0 (xs.length + ys.length ≤ 65535) := ⟨by omega⟩
            have HX2 : Aside0 (x.length ≤ 256) := ⟨by have := check_small HCK.out; omega⟩
            have d3 : decide ((s.size : Int) < (x.length : Int)) = false := decide_eq_false (by omega)
            have d4 : ((x.length : Int) == 0) = false := beq_eq_false_iff_ne.2 (by omega)
            have d5 : decide (s.size < x.length) = false := decide_eq_false (by omega)
            have d6 : (x.length == 0) = false := beq_eq_false_iff_ne.2 (by omega)
            clear hover hll e1 e2 e3 e4 e5 e6 e7 e8 e9 HWK
            gi_wp2_with (first
            | (first | refine ⟨trivial, fun _ => by omega, ?_⟩ | refine ⟨trivial, ?_⟩); refine (callsIn_wide.2 (name_Check.calls s 0 _ HCK.out)).mono ?_; rintro e w5 ⟨rfl, hb5⟩; have HP5 := Aside0.mk (HP.out.below hb5); have HW5 := Aside0.mk (HW.out.below hb5); have HB5 := Aside0.mk (HB.out.trans (hb5.mono HB.out.size)); obtain ⟨_, ee, q0, q1, _⟩ := at_T52 (Kd.C_below HC.out HB5.out) i HI.out HLT.out; cases ee; rw [HRD.out] at q0 q1; simp only at q0 q1; clear hb5
            | (first | refine ⟨trivial, fun _ => by omega, ?_⟩ | refine ⟨trivial, ?_⟩); refine (callsIn_wide.2 (ostiarykit_Pick.calls a1 ((bt.length : Int) + 1) P _ HPK.out)).mono ?_; rintro e w6 ⟨rfl, nd6, hw6⟩; have HP6 : Aside0 (Pk w6 _ _ _ S) := ⟨by rw [hw6]; exact HP5.out.below (pw_below_drewN (Below.refl _ _) _)⟩; have HW6 : Aside0 (WB w6 w.heap.size _ _ _ xs done) := ⟨by rw [hw6]; exact HW5.out.below (pw_below_drewN (Below.refl _ _) _)⟩; have HB6 : Aside0 (Below w.heap.size w w6) := ⟨by rw [hw6]; exact pw_below_drewN HB5.out _⟩; clear hw6
            | (gi_at_builtin; refine wpListIn_append_full _ rfl _ _ rfl w.heap.size _ xs rfl HW6.out.fb A1 ys.length c1 ys rfl (Kd.C_below HYC.out HB6.out) (by have := HXL.out; have := HYL.out; omega) HB6.out.size ?_; intro v7 w7 hf7 hg7; have HW7 : Aside0 (WB w7 w.heap.size v7 _ _ (xs ++ ys) done) := ⟨⟨hf7, ro_grown HW6.out.fp hg7 (full_row_ne HW6.out.fb HW6.out.fp (by decide)), ro_grown HW6.out.fn hg7 (full_row_ne HW6.out.fb HW6.out.fn (by decide))⟩⟩; have HP7 := Aside0.mk (HP6.out.grown hg7 (HW6.out.fb.apart HP6.out).1 (HW6.out.fb.apart HP6.out).2); have HB7 := Aside0.mk (HB6.out.grown hg7 HB6.out.size (fun j e => (HW6.out.fb.base_ _ e).1)); obtain ⟨A7, c7, rfl, hc7, hC7⟩ := hf7.reads; replace HW7 : Aside0 (WB w7 w.heap.size (.slice A7 (xs.length + ys.length) c7) _ _ (xs ++ ys) done) := ⟨by rw [← List.length_append]; exact HW7.out⟩; obtain ⟨_, ee, q2, q3, _⟩ := at_T52 (Kd.C_below HC.out HB7.out) i HI.out HLT.out; cases ee; rw [HRD.out] at q2 q3; simp only at q2 q3; clear hf7 hg7 hc7 hC7)
            | (first | refine ⟨trivial, fun _ => by omega, ?_⟩ | refine ⟨trivial, ?_⟩); refine (Packer_Name.in_ (n - 1) (by omega) _ HP7.out HNN.out ((xs.length : Int) + (ys.length : Int)) s 0 HCK.out).mono ?_; rw [HPF.out]; rintro e w8 ⟨v8, rfl, hf8, hp8, hd8⟩; have HF8 := Aside0.mk hf8; have HP8 := Aside0.mk hp8; have HW8 := Aside0.mk (HW7.out.pkd hd8 HP7.out); have HB8 := Aside0.mk (hd8.below HB7.out HB7.out.size HB1.out.size (by have := HB1.out.size; omega)); have HS8 := Aside0.mk hd8.size; obtain ⟨A8, c8, rfl, hc8, hC8⟩ := HF8.out.reads; have HC8 := Aside0.mk (And.intro hc8 hC8); obtain ⟨_, ee, q4, q5, _⟩ := at_T52 (Kd.C_below HC.out HB8.out) i HI.out HLT.out; cases ee; rw [HRD.out] at q4 q5; simp only at q4 q5; clear hf8 hp8 hd8 hc8 hC8
            | (gi_at_builtin; refine wpListIn_append_rows rfl _ _ 49 rfl w.heap.size 3 _ 1 8 Try.underlying49 info3r rfl (by decide) _ done.length _ rfl (HW8.out.alloc (Obj.cells #[.int .i64 ((xs.length : Int) + (ys.length : Int))] 3)).fp _ _ 1 _ rfl (own_lit1 _ (.int .i64 ((xs.length : Int) + (ys.length : Int))) 3) (by simp; rfl) (by have := HDN.out; rw [maxLen_eq]; omega) (by have := HDN.out; omega) (by have := HB8.out.size; simp; omega) ?_; intro v9 w9 hr9 hg9 hat9; have hk := HW8.out.alloc (Obj.cells #[.int .i64 ((xs.length : Int) + (ys.length : Int))] 3); have HFB9 := Aside0.mk (grow_row_full hk.fp hg9 hk.fb (by decide)); have HFN9 := Aside0.mk (grow_row_row hk.fp hg9 hk.fn (by decide)); have HFX9 := Aside0.mk (grow_row_full hk.fp hg9 (HF8.out.alloc_ _) (by decide)); have HP9 := Aside0.mk (grow_row_pk hk.fp hg9 (HP8.out.alloc _) (by decide)); have HB9 := Aside0.mk (grow_row_below hk.fp hg9 (below_alloc HB8.out _) (Nat.le_refl _)); have HFP9 := Aside0.mk hr9; obtain ⟨A9, c9, rfl, hc9⟩ := ro_slice hr9; obtain ⟨_, ee, q6, q7, _⟩ := at_T52 (Kd.C_below HC.out HB9.out) i HI.out HLT.out; cases ee; rw [HRD.out] at q6 q7; simp only at q6 q7; clear hr9 hg9 hat9 hk hc9)
            | (gi_at_builtin; refine wpListIn_append_rows rfl _ _ 50 rfl w.heap.size 9 _ 1 16 Try.underlying50 info9r rfl (by decide) _ done.length _ rfl (ro_alloc HFN9.out (Obj.cells #[.string s] 9)) _ _ 1 _ rfl (own_lit1 _ (.string s) 9) (by simp; rfl) (by have := HDN.out; rw [maxLen_eq]; omega) (by have := HDN.out; omega) (by have := HB9.out.size; simp; omega) ?_; intro v10 w10 hr10 hg10 hat10; have hk := ro_alloc HFN9.out (Obj.cells #[.string s] 9); have HFB10 := Aside0.mk (grow_row_full hk hg10 (HFB9.out.alloc_ _) (by decide)); have HFP10 := Aside0.mk (grow_row_row hk hg10 (ro_alloc HFP9.out _) (by decide)); have HFX10 := Aside0.mk (grow_row_full hk hg10 (HFX9.out.alloc_ _) (by decide)); have HP10 := Aside0.mk (grow_row_pk hk hg10 (HP9.out.alloc _) (by decide)); have HB10 := Aside0.mk (grow_row_below hk hg10 (below_alloc HB9.out _) (Nat.le_refl _)); have HFN10 := Aside0.mk hr10; obtain ⟨A10, c10, rfl, hc10⟩ := ro_slice hr10; obtain ⟨_, _, ee, hcx, hCx⟩ := HFX10.out.reads; cases ee; have HCX := Aside0.mk hCx; clear hr10 hg10 hat10 hk hc10 hcx hCx)
            | (gi_at_builtin; refine wpListIn_append_full _ rfl _ _ rfl w.heap.size _ (xs ++ ys) rfl HFB10.out A8 x.length c8 x rfl HCX.out (by have := HXL.out; have := HYL.out; have := HX2.out; simp; omega) HB10.out.size ?_; intro v11 w11 hf11 hg11; have HW11 : Aside0 (WB w11 w.heap.size v11 _ _ (xs ++ ys ++ x) (done ++ [(q, (xs ++ ys).length, x.length)])) := ⟨⟨hf11, (by rw [List.length_append, ints_snoc]; show World.ownsRow _ _ _ _ _ _ (ints done ++ [.int .i64 (((xs ++ ys).length : Nat) : Int)]); rw [show (((xs ++ ys).length : Nat) : Int) = (xs.length : Int) + (ys.length : Int) by simp]; exact ro_grown HFP10.out hg11 (full_row_ne HFB10.out HFP10.out (by decide))), (by rw [List.length_append, strs_snoc]; show World.ownsRow _ _ _ _ _ _ (strs done ++ [.string (strOfNums (q ++ [0]))]); rw [← HE5.out]; exact ro_grown HFN10.out hg11 (full_row_ne HFB10.out HFN10.out (by decide)))⟩⟩; have HP11 := Aside0.mk (HP10.out.grown hg11 (HFB10.out.apart HP10.out).1 (HFB10.out.apart HP10.out).2); have HB11 := Aside0.mk (HB10.out.grown hg11 HB10.out.size (fun j e => (HFB10.out.base_ _ e).1)); clear hf11 hg11))
            refine ⟨⟨i + 1, S', xs ++ ys ++ x, done ++ [(q, (xs ++ ys).length, x.length)], rfl, by have := HI.out; omega, by have := HLT.out; omega, ⟨HP11.out.more (by have := HI.out; omega)⟩, HW11, HTO, ⟨by simp; have := HOV.out; have := HX2.out; omega, by simp; have := HX.out.2; have := HI.out; omega⟩, HB11⟩, ?_⟩
            show ((l.length : Int) - (i + 1)).toNat < ((l.length : Int) - i).toNat
            have := HLT.out; omega
        · have hne : (c != 0) = true := bne_iff_ne.2 hc0
          clear hc0
          gi_wp2_with (first
            | (first | refine ⟨trivial, fun _ => by omega, ?_⟩ | refine ⟨trivial, ?_⟩); refine (callsIn_wide.2 (name_Check.calls s c _ HCK.out)).mono ?_; rintro e w5 ⟨rfl, hb5⟩; have HP5 := Aside0.mk (HP.out.below hb5); have HW5 := Aside0.mk (HW.out.below hb5); have HB5 := Aside0.mk (HB.out.trans (hb5.mono HB.out.size)); clear hb5)
          refine ⟨⟨i + 1, S, xs, done, rfl, by have := HI.out; omega, by have := HLT.out; omega, ⟨HP5.out.more (by have := HI.out; omega)⟩, HW5, HK, ⟨HX.out.1, by have := HX.out.2; have := HI.out; omega⟩, HB5⟩, ?_⟩
          show ((l.length : Int) - (i + 1)).toNat < ((l.length : Int) - i).toNat
          have := HLT.out; omega
      · have d1 : decide (i < (l.length : Int)) = false := decide_eq_false hlt
        have HDL : Aside0 (done.length ≤ 60) := ⟨by have := HX.out.2; have := HLS.out.1; omega⟩
        clear hlt
        gi_wp2
        gi_loopw [13] (fun jv wq => ∃ J : Int, jv = .int .i64 J ∧ 0 ≤ J ∧ J ≤ (done.length : Int) ∧ Aside0 (WB wq w.heap.size (.slice Ab xs.length cb) (.slice Ap done.length cp) (.slice An done.length cn) xs done) ∧ Aside0 (Below w.heap.size w wq)) (fun jv _ => match jv with | .int _ j => ((done.length : Int) - j).toNat | _ => 0)
        case atStart => exact ⟨0, rfl, by omega, by omega, HW, HB⟩
        case round =>
          rename_i wq
          obtain ⟨J, rfl, j0, j1, HWq, HBq⟩ := hrel
          by_cases hlt : J < (done.length : Int)
          · have d2 : decide (J < (done.length : Int)) = true := decide_eq_true hlt
            have hil : J.toNat < done.length := by omega
            obtain ⟨⟨q, k, m⟩, hx⟩ : ∃ x, x = done[J.toNat] := ⟨_, rfl⟩
            have hmem : (q, k, m) ∈ done := by rw [hx]; exact List.getElem_mem hil
            have HU : Aside0 ((ints done)[J.toNat]? = some (.int .i64 (k : Int))) := ⟨by unfold ints; rw [List.getElem?_map, List.getElem?_eq_getElem hil, ← hx]; rfl⟩
            have HV : Aside0 ((strs done)[J.toNat]? = some (.string (strOfNums (q ++ [0])))) := ⟨by unfold strs; rw [List.getElem?_map, List.getElem?_eq_getElem hil, ← hx]; rfl⟩
            obtain ⟨hq, hst⟩ := HK.out.stand _ hmem
            simp only at hq hst
            have hXl := HX.out.1
            obtain ⟨M, hM⟩ := hst.read_f HK.out.bytes (by omega) hq
            have HRA : Aside0 (wire_Read.f (M + 1) xs (k : Int) = some (strOfNums (q ++ [0]), (k : Int) + (m : Int), 0, 0)) := ⟨by rw [hM (M + 1) (by omega)]; simp⟩
            have hlt2 := hst.lt
            have d3 : decide ((k : Int) + (m : Int) ≤ (k : Int)) = false := decide_eq_false (by omega)
            have d4 : decide ((xs.length : Int) < (k : Int) + (m : Int)) = false := decide_eq_false (by omega)
            have d5 : decide (m ≤ 0) = false := decide_eq_false (by omega)
            obtain ⟨g1, cap1, ee, p0⟩ := row_at HWq.out.fp j0 hlt HU.out
            cases ee
            obtain ⟨_, _, ee, hcq, hCq⟩ := HWq.out.fb.reads
            cases ee
            have HCq := Aside0.mk (And.intro hcq hCq)
            obtain ⟨N, hN⟩ : ∃ N, N = strOfNums (q ++ [0]) := ⟨_, rfl⟩
            rw [← hN] at HV HRA
            have hne : (N.toList != N.toList) = false := by simp
            have hwj : IntKind.i64.wrap (J + 1) = J + 1 := IntWalk.i64_in _ (by have := HDL.out; omega)
            have hp0 := eq_true j0
            have hq0 := eq_true hlt
            have HJ := Aside0.mk (And.intro j0 hlt)
            clear hx hmem hq hst hM hlt2 hXl hil hlt hN hcq hCq
            gi_wp2_with (first
              | (first | refine ⟨trivial, fun _ => by omega, ?_⟩ | refine ⟨trivial, ?_⟩); refine (callsIn_wide.2 (wire_Read.calls (M + 1) Ab cb xs (k : Int) N ((k : Int) + (m : Int)) 0 0 _ HCq.out.2 HCq.out.1 HRA.out)).mono ?_; rintro e w5 ⟨rfl, hb5⟩; have HW5 := Aside0.mk ((HWq.out.below hb5).alloc (Obj.cells #[.int .i64 0, .int .i64 0] 31)); have HB5 := Aside0.mk (below_alloc (HBq.out.trans (hb5.mono HBq.out.size)) (Obj.cells #[.int .i64 0, .int .i64 0] 31)); have h31 := (blk_cell (blk_new w5 (Obj.cells #[.int .i64 0, .int .i64 0] 31)) 0).trans rfl; obtain ⟨_, _, ee, p1⟩ := row_at HW5.out.fp HJ.out.1 HJ.out.2 HU.out; cases ee; obtain ⟨_, _, ee, p2⟩ := row_at HW5.out.fn HJ.out.1 HJ.out.2 HV.out; cases ee; clear hb5)
            refine ⟨⟨J + 1, rfl, by have := HJ.out; omega, by have := HJ.out; omega, HW5, HB5⟩, ?_⟩
            show ((done.length : Int) - (J + 1)).toNat < ((done.length : Int) - J).toNat
            have := HJ.out; omega
          · have d2 : decide (J < (done.length : Int)) = false := decide_eq_false hlt
            clear hlt
            gi_wp2
            go_ret
            exact ⟨rfl, HBq.out⟩

theorem ostiarylaw05_WireBack.walk (a0 : Option Addr) (cap0 : Nat) (l0 : List S52) (a1 : Option Addr) (len1 cap1 : Nat) (z1 : List Int) (w : World) (c0 : l0.length ≤ cap0) (w0 : Kd.C k52 w a0 l0.length l0) (g0 : ∀ s ∈ l0, (Lit.int .i64 s.f1).wf = true)
    (w1 : (a1 = none ∧ len1 = 0 ∧ cap1 = 0 ∧ z1 = []) ∨ ∃ x, a1 = some x ∧ len1 ≤ cap1 ∧ cap1 ≤ maxLen ∧ z1.length = cap1 ∧ (∀ i, i < z1.length → w.cell? (x.add i) = some (.int .u8 (z1.getD i 0))) ∧ ∀ n ∈ z1, (Lit.int .u8 n).wf = true) (y1 : len1 * 1 ≤ 140737488351232) :
    Calls Try.prog 10 #[.slice a0 l0.length cap0, .slice a1 len1 cap1] w fun e w' => e = .returned (.bool true) ∧ Below w.heap.size w w' := by
  have hz : a1 = none → cap1 = 0 := by
    rcases w1 with ⟨_, _, h, _⟩ | ⟨x, h, _⟩
    · exact fun _ => h
    · intro e; rw [h] at e; cases e
  obtain ⟨l1, rfl, hr1, hm1, hw1, hc1⟩ := ReadsInt.ofRowC w1
  exact callsIn_wide.1 (ostiarylaw05_WireBack.in_ 5 (by omega) a0 cap0 l0 a1 cap1 l1 w w0 c0 g0 (Kd.C_of_reads (d := (0 : Int)) (h1 := fun _ => rfl) hr1) hc1 hz (bytesB_of hw1))
end Go.Proofs.Ytjjbhpbmfpodeaa.X
end
section
namespace Go.Proofs.Ytjjbhpbmfpodeaa.X
open Go.RowKit Go.Proofs.YtjjbhpbmfpodeaaW.PrintWords Go.Proofs.YtjjbhpbmfpodeaaW.PrintLast Go.Proofs.YtjjbhpbmfpodeaaW.PrintMore
attribute [local go_sem] max2_int min2_int max_two min_two max_three min_three max_four min_four   -- for this text's walks alone
set_option linter.unusedVariables false
set_option linter.unusedSimpArgs false



end Go.Proofs.Ytjjbhpbmfpodeaa.X
end
section
namespace Go.Proofs.Ytjjbhpbmfpodeaa.RA
open Go.RowKit Go.Deep Go.Proofs.Ytjjbhpbmfpodeaa.X Go.Proofs.YtjjbhpbmfpodeaaW.PrintWords Go.Proofs.YtjjbhpbmfpodeaaW.PrintLast
set_option linter.unusedVariables false
variable {H : Type} {enc : TypeId × Value → H} {W : World} {base : Nat} {sp : Nat → Bool} {hd : Bool}

theorem rows_upto {α : Type} {k : Kd α} {G : α → Prop} (a : Addr) : ∀ (len : Nat), (∀ i, i < len → ∃ s cs, k.K W s cs ∧ G s ∧ ∀ j u, cs[j]? = some u → W.cell? (a.add (i * k.sz + j)) = some u) →
    ∃ l : List α, l.length = len ∧ (∀ s ∈ l, G s) ∧ ∀ j p, l[j]? = some p → ∃ c, c.length = k.sz ∧ k.K W p c ∧ ∀ i u, c[i]? = some u → W.cell? (a.add (j * k.sz + i)) = some u
  | 0, _ => ⟨[], rfl, by simp, by simp⟩
  | n + 1, h => by
    obtain ⟨l, h1, h2, h3⟩ := rows_upto a n (fun i hi => h i (by omega))
    obtain ⟨s, cs, g1, g2, g3⟩ := h n (by omega)
    refine ⟨l ++ [s], by simp [h1], fun x hx => ?_, fun j p hj => ?_⟩
    · rcases List.mem_append.1 hx with hx | hx
      · exact h2 x hx
      · simp only [List.mem_singleton] at hx; subst hx; exact g2
    · rcases Nat.lt_or_ge j l.length with hl | hl
      · rw [List.getElem?_append_left hl] at hj
        exact h3 j p hj
      · rw [List.getElem?_append_right hl] at hj
        have hj0 : j - l.length = 0 := by
          rcases Nat.eq_zero_or_pos (j - l.length) with h0 | h0
          · exact h0
          · rw [List.getElem?_eq_none (by simp; omega)] at hj; cases hj
        rw [hj0] at hj
        simp at hj
        subst hj
        have e : j = n := by omega
        subst e
        exact ⟨cs, k.K_len g1, g1, g3⟩
/-- A slice of structs. -/
theorem open_structs {α : Type} {k : Kd α} {G : α → Prop} {t e : TypeId} {fuel : Nat} {cs : List Value} {x : DataW H × List MemPlace} (ht : Try.prog.underlying t = some (.slice e)) (hsz : Try.prog.cellsOf e = k.sz)
    (hrd : ∀ (fuel : Nat) (cs : List Value) (x : DataW H × List MemPlace), DataW.trod enc Try.prog W base sp hd fuel e cs = some x → ∃ s, k.K W s cs ∧ G s) (h : DataW.trod enc Try.prog W base sp hd fuel t cs = some x) :
    ∃ (A : Option Addr) (cap : Nat) (l : List α), cs = [.slice A l.length cap] ∧ l.length ≤ cap ∧ k.C W A l.length l ∧ ∀ s ∈ l, G s := by
  rcases open_slice ht h with ⟨rfl, _⟩ | ⟨a, len, cap, m, n, D, Pl, rfl, hb, hl, hm, hmm, hx, hi⟩
  · exact ⟨none, 0, [], rfl, Nat.le_refl _, Kd.C_nil k W, by simp⟩
  · have hlm : len ≤ m := by rw [hmm]; split <;> omega
    obtain ⟨l, h1, h2, h3⟩ := rows_upto (W := W) (k := k) (G := G) a len (fun i hil => by
      obtain ⟨cs', hc, ht'⟩ := hi i (by omega)
      obtain ⟨s, hK, hG⟩ := hrd _ _ _ ht'
      obtain ⟨_, hcl, hat⟩ := World.cells?_some hc
      refine ⟨s, cs', hK, hG, fun j u hu => ?_⟩
      have hj : j < cs'.length := by
        rcases Nat.lt_or_ge j cs'.length with h | h
        · exact h
        · rw [List.getElem?_eq_none h] at hu; cases hu
      rw [← Go.Deep.add_add, ← hsz, hat j (by omega), hu])
    have hml : maxLen = 9223372036854775807 := by decide
    subst h1
    exact ⟨some a, cap, l, rfl, hl, ⟨rfl, by omega, fun _ => ⟨a, rfl, h3⟩⟩, h2⟩

theorem cells3 : Try.prog.cellsOf 3 = 1 := by kernel_rfl
theorem cells4 : Try.prog.cellsOf 4 = 1 := by kernel_rfl
theorem cells9 : Try.prog.cellsOf 9 = 1 := by kernel_rfl
theorem cells52 : Try.prog.cellsOf 52 = 3 := by kernel_rfl
set_option maxRecDepth 100000 in
theorem read52 (fuel : Nat) (cs : List Value) (x : DataW H × List MemPlace) (h : DataW.trod enc Try.prog W base sp hd fuel 52 cs = some x) : ∃ s, k52.K W s cs ∧ (Lit.int .i64 s.f1).wf = true := by
  obtain ⟨xs, n, _, hx, hlen, hxl, hf⟩ := DataW.trod_struct Try.underlying52 h
  rw [cells52] at hlen
  match cs, hlen, xs, hxl with
  | [c0, c1, c2], _, [y0, y1, y2], _ =>
    have h0 : DataW.trod enc Try.prog W base sp hd n 9 (([c0, c1, c2].drop 0).take (Try.prog.cellsOf 9)) = some y0 := hf 0 _ rfl
    rw [cells9] at h0
    have h1 : DataW.trod enc Try.prog W base sp hd n 3 (([c0, c1, c2].drop 1).take (Try.prog.cellsOf 3)) = some y1 := hf 1 _ rfl
    rw [cells3] at h1
    have h2 : DataW.trod enc Try.prog W base sp hd n 4 (([c0, c1, c2].drop 2).take (Try.prog.cellsOf 4)) = some y2 := hf 2 _ rfl
    rw [cells4] at h2
    obtain ⟨s, e0, _, _⟩ := DataW.trod_string Try.underlying9 (show DataW.trod enc Try.prog W base sp hd n 9 [c0] = some y0 from h0)
    obtain ⟨a, e1, _, w1⟩ := DataW.trod_int Try.underlying3 (show DataW.trod enc Try.prog W base sp hd n 3 [c1] = some y1 from h1)
    obtain ⟨b, e2, _⟩ := DataW.trod_bool Try.underlying4 (show DataW.trod enc Try.prog W base sp hd n 4 [c2] = some y2 from h2)
    injection e0 with e0
    injection e1 with e1
    injection e2 with e2
    subst e0 e1 e2
    exact ⟨⟨s, a, b⟩, k52_mk W ⟨s, a, b⟩, w1⟩
/-- A parameter that is a slice of structs. -/
theorem opened {α : Type} {k : Kd α} {G : α → Prop} {t e : TypeId} {a : Option Addr} {len cap : Nat} {d : DataW H} {p : List MemPlace} (ht : Try.prog.underlying t = some (.slice e)) (hsz : Try.prog.cellsOf e = k.sz)
    (hrd : ∀ (fuel : Nat) (cs : List Value) (x : DataW H × List MemPlace), DataW.trod enc Try.prog W base sp hd fuel e cs = some x → ∃ s, k.K W s cs ∧ G s) (h : DataW.Trod enc Try.prog W base sp hd t (.slice a len cap) d p) :
    ∃ l : List α, l.length = len ∧ l.length ≤ cap ∧ k.C W a l.length l ∧ ∀ s ∈ l, G s := by
  obtain ⟨fuel, hf⟩ := h
  obtain ⟨A, cap', l, hcs, h1, h2, h3⟩ := open_structs ht hsz hrd hf
  simp [Value.cells] at hcs
  obtain ⟨rfl, rfl, rfl⟩ := hcs
  exact ⟨l, rfl, h1, h2, h3⟩
end Go.Proofs.Ytjjbhpbmfpodeaa.RA
end
section
namespace Go.Proofs.Ytjjbhpbmfpodeaa.Facts

theorem words_behind : ∀ (a r : List Char), (a.all fun c => c != Char.ofNat 32) = true → wordsSigns (a ++ Char.ofNat 32 :: r) = a :: wordsSigns r
  | [], r, _ => rfl
  | c :: a, r, h => by
    simp only [List.all_cons, Bool.and_eq_true, bne_iff_ne, ne_eq] at h
    have ih := words_behind a r (by simpa using h.2)
    have hc : c ≠ ' ' := h.1
    show wordsSigns (c :: (a ++ Char.ofNat 32 :: r)) = _
    rw [wordsSigns, ih]
    · exact hc

/-- The head line: a word, a sum, a word, the rest; laid out once. -/
structure Laid (L : List Char) : Prop where
  parts : L = L.take 7 ++ Char.ofNat 32 :: ((L.drop 8).take 64 ++ Char.ofNat 32 :: ((L.drop 73).take 3 ++ Char.ofNat 32 :: L.drop 77))
  one : L.take 7 = "harness".toList
  sum : isSumSigns ((L.drop 8).take 64) = true
  cut : (L.drop 73).take 3 = "cut".toList
  two : (((L.drop 8).take 64).all fun c => c != Char.ofNat 32) = true
set_option maxRecDepth 1000000 in
theorem head : ∃ L : List Char, Try.pinned.checked.prog.initOrder = String.ofList L ∧ Laid L :=
  ⟨_, rfl, ⟨by kernel_rfl, by kernel_rfl, by kernel_rfl, by kernel_rfl, by kernel_rfl⟩⟩
theorem words : ∃ s r, isSumSigns s = true ∧ wordsSigns Try.pinned.checked.prog.initOrder.toList = "harness".toList :: s :: "cut".toList :: r := by
  obtain ⟨L, e, h⟩ := head
  refine ⟨(L.drop 8).take 64, wordsSigns (L.drop 77), h.sum, ?_⟩
  rw [e, String.toList_ofList]
  have h1 := h.parts
  have h2 := h.one
  have h4 := h.cut
  rw [h2, h4] at h1
  rw [h1, words_behind _ _ (by decide +kernel), words_behind _ _ h.two, words_behind _ _ (by decide +kernel), ← h1]
theorem behind {s : List Char} (r : List (List Char)) (h : isSumSigns s = true) : behindMainWord ("harness".toList :: s :: r) = r := by
  unfold behindMainWord
  simp [h]
/-- What is asked of the words behind the sum, where the first of them is 'cut'. -/
def body (P : Program) (r : List (List Char)) : Bool :=
    ("cut".toList == "gc".toList || "cut".toList == "spec".toList) && (r.isEmpty || r.head? == some "stop".toList) ||
    ("cut".toList == "carried".toList && r.take 2 == ["gc".toList, "cut".toList] && !P.laysLater && !P.bearsReflect) ||
    ((stripLifts liftWords ("cut".toList :: r)).2.head? == some "cut".toList &&
      ((stripLifts liftWords ("cut".toList :: r)).1.contains "finals" || !P.laysLater) && ((stripLifts liftWords ("cut".toList :: r)).1.contains "reflectrows" || !P.bearsReflect) &&
      ((stripLifts liftWords ("cut".toList :: r)).1.contains "reflectrows" || !(stripLifts liftWords ("cut".toList :: r)).1.contains "leanrows") &&
      P.doorFits (stripLifts liftWords ("cut".toList :: r)).1)
theorem enter_of {P : Program} {s : List Char} {r : List (List Char)} (h : isSumSigns s = true) (e : wordsSigns P.initOrder.toList = "harness".toList :: s :: "cut".toList :: r) (k : body P r = true) : P.mayEnter = true := by
  unfold Program.mayEnter
  rw [e, behind _ h]
  exact k
theorem finals_of {P : Program} {s : List Char} {r : List (List Char)} (h : isSumSigns s = true) (e : wordsSigns P.initOrder.toList = "harness".toList :: s :: "cut".toList :: r) (k : (("cut".toList :: r).head? == some "carried".toList && ("cut".toList :: r).take 3 != ["carried".toList, "gc".toList, "cut".toList] || (stripLifts liftWords ("cut".toList :: r)).1.contains "finals") = false) : P.liftsFinal = false := by
  unfold Program.liftsFinal Program.headLifts
  rw [e, behind _ h]
  exact k
theorem make_of {P : Program} {s : List Char} {r : List (List Char)} (h : isSumSigns s = true) (e : wordsSigns P.initOrder.toList = "harness".toList :: s :: "cut".toList :: r) : P.make = some .cut := by
  unfold Program.make
  rw [e, behind _ h]
  rfl
theorem body_true (r : List (List Char)) : body Try.pinned.checked.prog r = true := by kernel_rfl
theorem mayEnter : Try.pinned.checked.prog.mayEnter = true := by
  obtain ⟨s, r, h, e⟩ := words
  exact enter_of h e (body_true r)
theorem finals : Try.pinned.checked.prog.liftsFinal = false := by
  obtain ⟨s, r, h, e⟩ := words
  exact finals_of h e (by kernel_rfl)
theorem make : Try.pinned.checked.prog.make = some .cut := by
  obtain ⟨s, r, h, e⟩ := words
  exact make_of h e
end Go.Proofs.Ytjjbhpbmfpodeaa.Facts
end
section
namespace Go.Proofs.Ytjjbhpbmfpodeaa.wireBack
open Go.ChangeShapes Go.WideShapes Go.ChangeAt Go.RowKit
open Go.ChangeMaps (open_string shut_string)
set_option linter.unusedVariables false
theorem own : ownKnob Try.prog.godebug = none := by kernel_rfl
theorem laidOut : laidOutB Try.prog = true := by kernel_rfl
def IsRow (k : IntKind) (w : World) (a : Option Addr) (len cap : Nat) (zs : List Int) : Prop :=
  (a = none ∧ len = 0 ∧ cap = 0 ∧ zs = []) ∨
  ∃ x, a = some x ∧ len ≤ cap ∧ cap ≤ maxLen ∧ zs.length = cap ∧ (∀ i, i < zs.length → w.cell? (x.add i) = some (.int k (zs.getD i 0))) ∧ ∀ n ∈ zs, (Lit.int k n).wf = true
set_option maxRecDepth 100000 in
theorem lifted (os : Os) (started : os.Started) (H : Type) (enc : TypeId × Value → H) :
    ReturnsInHanded {} Try.checked os 10 .any (Rows.wireBackSpec.pre6 enc Try.prog Try.f10 Rows.wireBackRow.domain false) (Rows.wireBackSpec.post enc Try.prog Try.f10 false true false false) := by
  refine returnsInHanded_of_change_sized (C := Try.checked) own started (by kernel_rfl) Try.func10
    (ChangeSpec.witness6 (enc := enc) (C := Try.checked) false ⟨#[], #[.slice none 0 0, .slice none 0 0], []⟩ 8 (by kernel_rfl) (by kernel_rfl) (by kernel_rfl) (by kernel_rfl)) ?_
  intro W base args ds gs before hval0 hW hcnd hsz0 _
  have hsz : (DataW.weightsEach Try.prog (Try.f10.params.toList ++ Rows.wireBackSpec.plain.varTypes Try.prog) (ds ++ gs)).all (· ≤ reachBytes) = true := hsz0
  have hval : ∀ (j : Nat) t v, Try.f10.params[j]? = some t → args[j]? = some v → Value.okWide Try.prog W .any base t v := hval0
  have hW' := hW
  obtain ⟨p, q, hA0, hV, rfl, hfz, hnd⟩ := hW
  have hA : DataW.TrodAll enc Try.prog W 0 (fun _ => true) true Try.f10.params.toList args.toList ds p := hA0
  rw [Try.params10] at hA hval hsz
  obtain ⟨v0, vs0, d0, ds0, p0, q0, hargs, rfl, rfl, h0, r0⟩ := trodAll_cons hA
  obtain ⟨v1, vs1, d1, ds1, p1, q1, rfl, rfl, rfl, h1, r1⟩ := trodAll_cons r0
  obtain ⟨rfl, rfl, rfl⟩ := trodAll_nil r1
  obtain rfl : args = #[v0, v1] := by cases args; simp_all
  obtain ⟨rfl, rfl⟩ := trodVars_none hV
  obtain ⟨a0, len0, cap0, rfl⟩ := okWide_slice Try.underlying45 (hval 0 45 v0 rfl rfl)
  have k0 := h0
  have lt0 : ∀ x ∈ p0, x.block < W.heap.size := by obtain ⟨m, hm⟩ := k0; exact DataW.trod_lt m _ _ _ hm
  obtain ⟨l0, e0, c0, w0, g0⟩ := RA.opened (k := X.k52) Try.underlying45 RA.cells52 RA.read52 h0
  subst e0
  obtain ⟨a1, len1, cap1, rfl⟩ := okWide_slice Try.underlying22 (hval 1 22 v1 rfl rfl)
  have k1 := h1
  have lt1 : ∀ x ∈ p1, x.block < W.heap.size := by obtain ⟨m, hm⟩ := k1; exact DataW.trod_lt m _ _ _ hm
  obtain ⟨z1, w1⟩ : ∃ zs, IsRow .u8 W a1 len1 cap1 zs := by
    obtain ⟨fuel, hf⟩ := h1
    rcases open_ints Try.underlying22 Try.underlying5 (by kernel_rfl) hf with ⟨hcs, _⟩ | ⟨x, l, c, zs, hcs, _, hl, hm, hz, _, hcell, hwz⟩
    · simp [Value.cells] at hcs
      obtain ⟨rfl, rfl, rfl⟩ := hcs
      exact ⟨[], .inl ⟨rfl, rfl, rfl, rfl⟩⟩
    · simp [Value.cells] at hcs
      obtain ⟨rfl, rfl, rfl⟩ := hcs
      exact ⟨zs, .inr ⟨_, rfl, hl, hm, by simpa using hz, hcell, hwz⟩⟩
  have y1 : len1 * 1 ≤ 140737488351232 := Go.Proofs.YtjjbhpbmfpodeaaW.PrintWords.sized_ints hsz (j := 1) (t := 22) rfl rfl Try.underlying22 Try.underlying5 (by kernel_rfl) (by kernel_rfl) h1
  clear hA0 hval0 hsz0 hsz
  refine (X.ostiarylaw05_WireBack.walk a0 cap0 l0 a1 len1 cap1 z1 W c0 w0 g0 w1 y1).mono fun e W' ⟨he, bel⟩ => ?_
  subst he
  exact ⟨_, rfl, _, _, _, [], _, [], hW', trodAll_mk1 (shut_bool Try.underlying4 _), (trodAll_cons_mk (Below.trod laidOut (by kernel_rfl) (of_decide_eq_true (by kernel_rfl)) k0 bel lt0) (trodAll_cons_mk (Below.trod laidOut (by kernel_rfl) (of_decide_eq_true (by kernel_rfl)) k1 bel lt1) trodAll_mk0)), rfl, bel.frame _, fun h => by cases h⟩
theorem facts : joinedFacts Try.pinned.checked.prog 10 Try.f10 Rows.wireBackSpec Rows.wireBackRow = true := by
  unfold joinedFacts
  simp only [Bool.and_eq_true]
  repeat' (refine And.intro ?_ ?_)
  all_goals first | (with_reducible exact Facts.mayEnter) | (rw [Facts.finals]; rfl) | (rw [Facts.make]; rfl) | (as_aux_lemma => kernel_rfl)
theorem over : Rows.wireBackRow.holds Try.pinned (OpenSpec.ofChange Rows.wireBackSpec) :=
  OpenClaim.holds_of_wide 10 Try.f10 rfl rfl rfl rfl rfl rfl rfl ⟨rfl, rfl, rfl, rfl, rfl⟩ rfl rfl rfl rfl rfl (by kernel_rfl) Try.func10 facts
    (of_decide_eq_true (by kernel_rfl)) (by unfold Func.isWrapper; first | (rw [if_pos (by decide +kernel)]; kernel_rfl) | (rw [if_neg (by decide +kernel)]; exact ⟨rfl, rfl⟩))
    (fun os started H enc _ => lifted os started H enc)
theorem proved : Rows.WireBackSaid := over
#print axioms proved
end Go.Proofs.Ytjjbhpbmfpodeaa.wireBack
namespace Go.Proofs.Ytjjbhpbmfpodeaa
/-- The row, under a short name, for the claim. -/
theorem wireBack_holds : Rows.WireBackSaid := wireBack.proved
end Go.Proofs.Ytjjbhpbmfpodeaa
end
