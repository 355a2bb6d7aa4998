/- A law of the document, proved of the program: its own texts (plain functions, the walks, plain lemmas, the row), one behind the other. Conditions: those in the theorems. Part 3 of 4. Laid by the session's program wip/merge.py. -/
import Derived.Test.YtjjbhpbmfpodeaaRows
import Derived.Test.YtjjbhpbmfpodeaaProg
import Derived.Below
import Derived.Deep.Draws
import Derived.Deep.AppendLies
import Derived.Maps.AppendAt
import Derived.OwnWalk
import Derived.Laws.BytesArg
import Derived.Laws.MakeOwn
import Derived.Laws.OwnMore
import Derived.Deep.OwnRows
import Derived.Tactics
import Derived.Lib.ConvBytes
import Derived.Laws.Slices
import Derived.WalkKit
import Derived.KernelRfl
import Derived.RowKit3
import Derived.Deep.LoopGhost
import Derived.Deep.QuietTactic
import Derived.BigQuiet
import Derived.WideLaws
import Derived.Deep.DeepCutAuto
import Derived.Deep.CutBlock
import Derived.Deep.RegionHeld3
import Derived.Laws.Rows
import Derived.Lib.AppendStr
import Derived.ArgAppend
import Derived.Laws.IdiomCopy
import Derived.OrdersHeld
import Derived.Laws.BitsLemmas
import Derived.RowKit
import Derived.Test.YtjjbhpbmfpodeaaWWords
import Derived.Test.YtjjbhpbmfpodeaaWLast
import Derived.Test.YtjjbhpbmfpodeaaWTab
import Derived.Test.YtjjbhpbmfpodeaaWFour
import Derived.Test.YtjjbhpbmfpodeaaWQPut
import Derived.Test.YtjjbhpbmfpodeaaWApart
import Derived.Test.YtjjbhpbmfpodeaaWArr
import Derived.Test.YtjjbhpbmfpodeaaWZeros
import Derived.Test.YtjjbhpbmfpodeaaWFoot
import Derived.Test.YtjjbhpbmfpodeaaWKept
import Derived.Test.YtjjbhpbmfpodeaaWShare
import Derived.Test.YtjjbhpbmfpodeaaWN
import Derived.Test.YtjjbhpbmfpodeaaWFootNe
import Derived.Test.YtjjbhpbmfpodeaaWAt
import Derived.Test.YtjjbhpbmfpodeaaWEqStruct
import Derived.Test.YtjjbhpbmfpodeaaWRepsOne
import Derived.Test.YtjjbhpbmfpodeaaWInv
import Derived.Test.YtjjbhpbmfpodeaaWInvWords
import Derived.Test.YtjjbhpbmfpodeaaWGuard
import Derived.Test.YtjjbhpbmfpodeaaWNEv
import Derived.Test.YtjjbhpbmfpodeaaWMore
import Derived.RangeFuncWrites
import Derived.RangeFuncLeaves
import Derived.RangeFuncBox
import Derived.Deep.WholeRow
import Derived.Deep.RegionHeld
import Derived.Laws.CopyRow
import Derived.OwnWalkIn
import Derived.TacticsInMore
import Derived.LoopNIn
import Derived.LoopIn
import Derived.Sort.QuietIn
import Derived.Recover
import Derived.Laws.Panics
import Derived.OpenShut
import Derived.Shelf.Abstract
import Derived.Shelf.RegionOpen
import Derived.Lib.AtoiErrMem
import Derived.Maps.OwnIn
import Derived.Maps.Views
import Derived.Sort.MapsRangeIn
import Derived.StringKeys
import Derived.WalkSmall
import Derived.RecoverIn
import Derived.Laws.Pointers
import Derived.BigRegionIn
import Derived.WalkMore
import Derived.ProofKit
import Derived.JoinedOf
import Derived.ShutString
import Derived.ChangeOld
import Derived.SizedLaws
import Derived.Test.YtjjbhpbmfpodeaaJRdataLowerA
import Derived.Test.YtjjbhpbmfpodeaaJRdataLowerB
section
namespace Go.Proofs.Ytjjbhpbmfpodeaa.X
open Go.RowKit Go.Proofs.YtjjbhpbmfpodeaaW.PrintWords Go.Proofs.YtjjbhpbmfpodeaaW.PrintLast Go.Proofs.YtjjbhpbmfpodeaaW.PrintMore
attribute [local go_sem] max2_int min2_int max_two min_two max_three min_three max_four min_four   -- for this text's walks alone
set_option linter.unusedVariables false
set_option linter.unusedSimpArgs false

/-! ### ostiarylaw05_WireEnds: function 9 -/
def ostiarylaw05_WireEnds.j0 : Nat → List Int → Int → Bool → ByteArray → Int → Bool → Option (Bool)
  | 0, _, _, _, _, _, _ => none
  | k + 1, x0, x1, x5, x6, x7, x72 => if x72 = true then (some false) else (if 0 ≤ (wrap64 (x7 - 1)) then (if (wrap64 (x7 - 1)) < (x0.length : Int) then (if (rd x0 (wrap64 (x7 - 1))) = 0 then (if (wrap64 (x7 - x1)) = (x6.size : Int) then (if 0 ≤ x1 then (if x1 ≤ (x0.length : Int) then ((wire_Read.f k (x0.drop (x1 : Int).toNat) 0).bind fun bt111 => (if x5 = true then (if bt111.2.2.1 = 0 then (if bt111.1.toList = x6.toList then (some (bt111.2.1 == (wrap64 (x7 - x1)))) else (some false)) else (some false)) else (some false))) else (none)) else (none)) else (some x5)) else (some x5)) else (none)) else (none))
def ostiarylaw05_WireEnds.f (k : Nat) (l0 : List Int) (a1 : Int) : Option (Bool) := (ostiarylaw05_awake.f k).bind fun t101 => (if (l0.length : Int) > 2000 then (some t101) else ((ostiarykit_Pick.f a1 (wrap64 ((l0.length : Int) + 1))).bind fun t102 => ((wire_Read.f k l0 t102).bind fun bt103 => (if bt103.2.2.1 = 0 then ((name_Check.f bt103.1).bind fun t108 => (if t108 = 0 then (if bt103.2.1 ≤ t102 then (ostiarylaw05_WireEnds.j0 k l0 t102 t101 bt103.1 bt103.2.1 true) else (if bt103.2.1 > (l0.length : Int) then (ostiarylaw05_WireEnds.j0 k l0 t102 t101 bt103.1 bt103.2.1 true) else (ostiarylaw05_WireEnds.j0 k l0 t102 t101 bt103.1 bt103.2.1 (decide ((wrap64 (bt103.2.1 - t102)) > 256))))) else (ostiarylaw05_WireEnds.j0 k l0 t102 t101 bt103.1 bt103.2.1 true))) else (if t101 = true then (if bt103.1.toList = ([] : List UInt8) then (if bt103.2.1 = 0 then (if bt103.2.2.2 ≥ 0 then (some (decide (bt103.2.2.2 ≤ (l0.length : Int)))) else (some false)) else (some false)) else (some false)) else (some false))))))
theorem ostiarylaw05_WireEnds.mono_l : ∀ k, (∀ y0 y1 y2 y3 y4 y5, LeO (ostiarylaw05_WireEnds.j0 k y0 y1 y2 y3 y4 y5) (ostiarylaw05_WireEnds.j0 (k + 1) y0 y1 y2 y3 y4 y5))
  | 0 => fun _ _ _ _ _ _ r h => by simp [ostiarylaw05_WireEnds.j0] at h
  | k + 1 => by
    have ih0 := ostiarylaw05_WireEnds.mono_l k
    · intro y0 y1 y2 y3 y4 y5
      unfold ostiarylaw05_WireEnds.j0
      repeat' first
      | (with_reducible exact ih0 _ _ _ _ _ _)
      | (with_reducible exact ostiarylaw05_awake.mono _)
      | (with_reducible exact wire_Read.mono _ _ _)
      | (with_reducible exact LeO.refl _)
      | (with_reducible exact LeO.none _)
      | (with_reducible refine LeO.ite ?_ ?_)
      | (with_reducible refine LeO.bind ?_ (fun _ => ?_))
      | exact ih0 _ _ _ _ _ _
      | exact ostiarylaw05_awake.mono _
      | exact wire_Read.mono _ _ _
      | exact LeO.none _
      | refine LeO.ite ?_ ?_
      | refine LeO.bind ?_ (fun _ => ?_)
theorem ostiarylaw05_WireEnds.mono : ∀ a0 a1 k, LeO (ostiarylaw05_WireEnds.f k a0 a1) (ostiarylaw05_WireEnds.f (k + 1) a0 a1) := by
  intro a0 a1 k
  have ih0 := ostiarylaw05_WireEnds.mono_l k
  unfold ostiarylaw05_WireEnds.f
  repeat' first
      | (with_reducible exact ih0 _ _ _ _ _ _)
      | (with_reducible exact ostiarylaw05_awake.mono _)
      | (with_reducible exact wire_Read.mono _ _ _)
      | (with_reducible exact LeO.refl _)
      | (with_reducible exact LeO.none _)
      | (with_reducible refine LeO.ite ?_ ?_)
      | (with_reducible refine LeO.bind ?_ (fun _ => ?_))
      | exact ih0 _ _ _ _ _ _
      | exact ostiarylaw05_awake.mono _
      | exact wire_Read.mono _ _ _
      | exact LeO.none _
      | refine LeO.ite ?_ ?_
      | refine LeO.bind ?_ (fun _ => ?_)
set_option maxHeartbeats 8000000 in
set_option maxRecDepth 100000 in
theorem ostiarylaw05_WireEnds.calls (k : Nat) (A0 : Option Addr) (c0 : Nat) (l0 : List Int) (a1 : Int) (r : Bool) (w : World) (hr0 : Kd.C (Kd.int .u8) w A0 l0.length l0) (hc0 : l0.length ≤ c0) (h : ostiarylaw05_WireEnds.f k l0 a1 = some r) :
    Calls Try.prog 9 #[.slice A0 l0.length c0, .int .i64 a1] w fun e w' => e = .returned (.bool r) ∧ Below w.heap.size w w' := by
  have hu31 := Try.underlying31
  have HR0 := Aside0.mk hr0
  have HC0 := Aside0.mk hc0
  clear hr0 hc0
  have HB := Aside0.mk (Below.refl w.heap.size w)
  have H : ((ostiarylaw05_awake.f k).bind fun t101 => (if (l0.length : Int) > 2000 then (some t101) else ((ostiarykit_Pick.f a1 (wrap64 ((l0.length : Int) + 1))).bind fun t102 => ((wire_Read.f k l0 t102).bind fun bt103 => (if bt103.2.2.1 = 0 then ((name_Check.f bt103.1).bind fun t108 => (if t108 = 0 then (if bt103.2.1 ≤ t102 then (ostiarylaw05_WireEnds.j0 k l0 t102 t101 bt103.1 bt103.2.1 true) else (if bt103.2.1 > (l0.length : Int) then (ostiarylaw05_WireEnds.j0 k l0 t102 t101 bt103.1 bt103.2.1 true) else (ostiarylaw05_WireEnds.j0 k l0 t102 t101 bt103.1 bt103.2.1 (decide ((wrap64 (bt103.2.1 - t102)) > 256))))) else (ostiarylaw05_WireEnds.j0 k l0 t102 t101 bt103.1 bt103.2.1 true))) else (if t101 = true then (if bt103.1.toList = ([] : List UInt8) then (if bt103.2.1 = 0 then (if bt103.2.2.2 ≥ 0 then (some (decide (bt103.2.2.2 ≤ (l0.length : Int)))) else (some false)) else (some false)) else (some false)) else (some false))))))) = some r := h
  clear h
  replace H := Option.bind_eq_some_iff.mp H
  obtain ⟨t101, A30, H⟩ := H
  replace H : (if (l0.length : Int) > 2000 then (some t101) else ((ostiarykit_Pick.f a1 (wrap64 ((l0.length : Int) + 1))).bind fun t102 => ((wire_Read.f k l0 t102).bind fun bt103 => (if bt103.2.2.1 = 0 then ((name_Check.f bt103.1).bind fun t108 => (if t108 = 0 then (if bt103.2.1 ≤ t102 then (ostiarylaw05_WireEnds.j0 k l0 t102 t101 bt103.1 bt103.2.1 true) else (if bt103.2.1 > (l0.length : Int) then (ostiarylaw05_WireEnds.j0 k l0 t102 t101 bt103.1 bt103.2.1 true) else (ostiarylaw05_WireEnds.j0 k l0 t102 t101 bt103.1 bt103.2.1 (decide ((wrap64 (bt103.2.1 - t102)) > 256))))) else (ostiarylaw05_WireEnds.j0 k l0 t102 t101 bt103.1 bt103.2.1 true))) else (if t101 = true then (if bt103.1.toList = ([] : List UInt8) then (if bt103.2.1 = 0 then (if bt103.2.2.2 ≥ 0 then (some (decide (bt103.2.2.2 ≤ (l0.length : Int)))) else (some false)) else (some false)) else (some false)) else (some false)))))) = some r := H
  have A3 := Aside0.mk A30
  clear A30
  by_cases c4 : (l0.length : Int) > 2000
  · rw [if_pos c4] at H
    have c4b0 : decide (2000 < (l0.length : Int)) = true := decide_eq_true c4
    have c4b1 : decide (2000 < l0.length) = true := decide_eq_true (by omega)
    clear c4
    obtain rfl := Option.some.inj H
    go_enter Try.func9, Try.ntmps9
    go_wp2_with (first | ((with_reducible refine gate_callee (f := 47) rfl ?_); refine goesL_ (some 12) rfl rfl Try.func47 (by kernel_rfl) rfl #[] rfl (by (try simp only [List.map_toArray, List.map_cons, List.map_nil]); first | done | rfl | (simp only [List.length_drop, List.length_take]; rfl)) ?_; (with_reducible refine (ostiarylaw05_awake.calls k  t101 _ A3.out).mono ?_); rintro e w5 ⟨rfl, hb⟩; refine ⟨_, rfl, ?_⟩; have n0_ := Aside0.mk (below_step (by repeat (first | (with_reducible first | exact HB.out | apply below_alloc | apply pw_below_drewN | apply below_drew1) | exact HB.out)) hb); clear HB; have HB := n0_; clear n0_; (try clear hb); (try clear hb2); (try clear hk); (try clear hi)))
    go_ret
    exact ⟨by first | rfl | (simp [errW_none, errW_some] <;> rfl) | (simp [*, errW_none, errW_some] <;> rfl), by repeat (first | (with_reducible first | exact HB.out | apply below_alloc | apply pw_below_drewN | apply below_drew1) | exact HB.out)⟩
  · rw [if_neg c4] at H
    have c4b0 : decide (2000 < (l0.length : Int)) = false := decide_eq_false c4
    have c4b1 : decide (2000 < l0.length) = false := decide_eq_false (by omega)
    clear c4
    replace H := Option.bind_eq_some_iff.mp H
    obtain ⟨t102, A60, H⟩ := H
    replace H : ((wire_Read.f k l0 t102).bind fun bt103 => (if bt103.2.2.1 = 0 then ((name_Check.f bt103.1).bind fun t108 => (if t108 = 0 then (if bt103.2.1 ≤ t102 then (ostiarylaw05_WireEnds.j0 k l0 t102 t101 bt103.1 bt103.2.1 true) else (if bt103.2.1 > (l0.length : Int) then (ostiarylaw05_WireEnds.j0 k l0 t102 t101 bt103.1 bt103.2.1 true) else (ostiarylaw05_WireEnds.j0 k l0 t102 t101 bt103.1 bt103.2.1 (decide ((wrap64 (bt103.2.1 - t102)) > 256))))) else (ostiarylaw05_WireEnds.j0 k l0 t102 t101 bt103.1 bt103.2.1 true))) else (if t101 = true then (if bt103.1.toList = ([] : List UInt8) then (if bt103.2.1 = 0 then (if bt103.2.2.2 ≥ 0 then (some (decide (bt103.2.2.2 ≤ (l0.length : Int)))) else (some false)) else (some false)) else (some false)) else (some false)))) = some r := H
    have A6 := Aside0.mk A60
    clear A60
    replace H := Option.bind_eq_some_iff.mp H
    obtain ⟨⟨t103, t104, t105, t106⟩, A70, H⟩ := H
    replace H : (if t105 = 0 then ((name_Check.f t103).bind fun t108 => (if t108 = 0 then (if t104 ≤ t102 then (ostiarylaw05_WireEnds.j0 k l0 t102 t101 t103 t104 true) else (if t104 > (l0.length : Int) then (ostiarylaw05_WireEnds.j0 k l0 t102 t101 t103 t104 true) else (ostiarylaw05_WireEnds.j0 k l0 t102 t101 t103 t104 (decide ((wrap64 (t104 - t102)) > 256))))) else (ostiarylaw05_WireEnds.j0 k l0 t102 t101 t103 t104 true))) else (if t101 = true then (if t103.toList = ([] : List UInt8) then (if t104 = 0 then (if t106 ≥ 0 then (some (decide (t106 ≤ (l0.length : Int)))) else (some false)) else (some false)) else (some false)) else (some false))) = some r := H
    have A7 := Aside0.mk A70
    clear A70
    by_cases c8 : t105 = 0
    · rw [if_pos c8] at H
      have c8b0 : (t105 == 0) = true := beq_iff_eq.mpr c8
      have c8b1 : (t105 != 0) = false := bne_eq_false_iff_eq.mpr c8
      clear c8
      have HC9 := Aside0.mk H
      clear H
      go_enter Try.func9, Try.ntmps9
      go_upto_region 8 with (first | ((with_reducible refine gate_callee (f := 47) rfl ?_); refine goesL_ (some 12) rfl rfl Try.func47 (by kernel_rfl) rfl #[] rfl (by (try simp only [List.map_toArray, List.map_cons, List.map_nil]); first | done | rfl | (simp only [List.length_drop, List.length_take]; rfl)) ?_; (with_reducible refine (ostiarylaw05_awake.calls k  t101 _ A3.out).mono ?_); rintro e w10 ⟨rfl, hb⟩; refine ⟨_, rfl, ?_⟩; have n0_ := Aside0.mk (below_step (by repeat (first | (with_reducible first | exact HB.out | apply below_alloc | apply pw_below_drewN | apply below_drew1) | exact HB.out)) hb); clear HB; have HB := n0_; clear n0_; (try clear hb); (try clear hb2); (try clear hk); (try clear hi)) | ((with_reducible refine gate_callee (f := 38) rfl ?_); refine goesL_ (some 21) rfl rfl Try.func38 (by kernel_rfl) rfl #[.int .i64 a1, .int .i64 (wrap64 ((l0.length : Int) + 1))] rfl (by (try simp only [List.map_toArray, List.map_cons, List.map_nil]); first | done | rfl | (simp only [List.length_drop, List.length_take]; rfl)) ?_; (with_reducible refine (ostiarykit_Pick.calls a1 (wrap64 ((l0.length : Int) + 1)) t102 _ A6.out).mono ?_); rintro e w' ⟨rfl, ⟨nd, rfl⟩⟩; refine ⟨_, rfl, ?_⟩; (try (rw [drewN_self w10]; generalize hq_ : World.drewN w10 _ = w10; have n0_ : Aside0 (Below w.heap.size w w10) := ⟨by rw [← hq_]; exact (by repeat (first | (with_reducible first | exact HB.out | apply below_alloc | apply pw_below_drewN | apply below_drew1) | exact HB.out))⟩; clear HB hq_; have HB := n0_; clear n0_))) | ((with_reducible refine gate_callee (f := 45) rfl ?_); refine goesL_ (some 25) rfl rfl Try.func45 (by kernel_rfl) rfl #[.slice A0 l0.length c0, .int .i64 t102] rfl (by (try simp only [List.map_toArray, List.map_cons, List.map_nil]); first | done | rfl | (simp only [List.length_drop, List.length_take]; rfl)) ?_; (with_reducible refine (wire_Read.calls k _ _ l0 t102 t103 t104 t105 t106 _ ?side1 ?side2 A7.out).mono ?_); (case side1 => repeat (first | exact (Kd.C_below HR0.out HB.out) | (with_reducible refine Kd.C_alloc ?_ _) | (with_reducible refine Kd.C_drewN ?_ _) | (with_reducible refine Kd.C_drew ?_))); (case side2 => exact HC0.out); rintro e w11 ⟨rfl, hb⟩; refine ⟨_, rfl, ?_⟩; have n0_ := Aside0.mk (below_step (by repeat (first | (with_reducible first | exact HB.out | apply below_alloc | apply pw_below_drewN | apply below_drew1) | exact HB.out)) hb); clear HB; have HB := n0_; clear n0_; (try clear hb); (try clear hb2); (try clear hk); (try clear hi)) | ((with_reducible refine gate_dst (N := 8) rfl ?_); (try (refine gate_guard (by rfl) ?_; dsimp only)); refine box_event ?hg (N := 8) ?hd (cs := #[.int .i64 0, .int .i64 0]) (t := 31) ?hr ?_; (case hd => rfl); (case hg => rfl); (case hr => first | (go_simp; done) | (go_simp; rfl)); intro gb107 hg w12 hbox hb; have n0_ := Aside0.mk (below_step (by repeat (first | (with_reducible first | exact HB.out | apply below_alloc | apply pw_below_drewN | apply below_drew1) | exact HB.out)) hb); have n1_ := Aside0.mk (hbox); have n2_ := Aside0.mk ((by rw [hg]; exact (below_size (by repeat (first | (with_reducible first | exact HB.out | apply below_alloc | apply pw_below_drewN | apply below_drew1) | exact HB.out))) : w.heap.size ≤ gb107)); have n3_ := Aside0.mk ((by rw [hg]; exact (below_size (by repeat (first | (with_reducible first | exact HB.out | apply below_alloc | apply pw_below_drewN | apply below_drew1) | exact HB.out))) : w.heap.size ≤ gb107)); clear HB; have HB := n0_; have BK107 := n1_; have GW107 := n2_; have GE107 := n3_; clear n0_ n1_ n2_ n3_; clear hb hbox hg; have hcz13_0 : w12.cell? ⟨gb107, 0, none⟩ = some (.int .i64 0) := (blk_cell BK107.out 0).trans rfl; have hcz13_1 : w12.cell? ⟨gb107, 1, none⟩ = some (.int .i64 0) := (blk_cell BK107.out 1).trans rfl; have hfz13_0 := blk_frozen BK107.out 0; have hfz13_1 := blk_frozen BK107.out 1))
      (try simp only [Act.put, List.setIfInBounds_toArray, List.set_cons_zero, List.set_cons_succ])
      go_cut [72] (fun v72 wc => ∃ (kq : Nat) (x72_8 : Bool), v72 = .bool x72_8 ∧ Aside0 (ostiarylaw05_WireEnds.j0 kq l0 t102 t101 t103 t104 x72_8 = some r) ∧ Aside0 (kq ≤ k) ∧ Aside0 (wc.heap[gb107]? = some (.cells #[.int .i64 t105, .int .i64 t106] 31 (0, 0))) ∧ Aside0 (Below w.heap.size w wc))
      case first =>
        have H := HC9.out
        clear HC9
        replace H := Option.bind_eq_some_iff.mp H
        obtain ⟨t108, A140, H⟩ := H
        replace H : (if t108 = 0 then (if t104 ≤ t102 then (ostiarylaw05_WireEnds.j0 k l0 t102 t101 t103 t104 true) else (if t104 > (l0.length : Int) then (ostiarylaw05_WireEnds.j0 k l0 t102 t101 t103 t104 true) else (ostiarylaw05_WireEnds.j0 k l0 t102 t101 t103 t104 (decide ((wrap64 (t104 - t102)) > 256))))) else (ostiarylaw05_WireEnds.j0 k l0 t102 t101 t103 t104 true)) = some r := H
        have A14 := Aside0.mk A140
        clear A140
        by_cases c15 : t108 = 0
        · rw [if_pos c15] at H
          have c15b0 : (t108 == 0) = true := beq_iff_eq.mpr c15
          have c15b1 : (t108 != 0) = false := bne_eq_false_iff_eq.mpr c15
          clear c15
          (first | rw [c15b0] | (simp only [i64_w, i32_w]; rw [c15b0]) | skip)
          by_cases c16 : t104 ≤ t102
          · rw [if_pos c16] at H
            have c16b0 : decide (t104 ≤ t102) = true := decide_eq_true c16
            clear c16
            have H' := Aside0.mk H
            clear H
            go_wp2_with (first | ((with_reducible refine gate_callee (f := 48) rfl ?_); refine goesL_ (some 54) rfl rfl Try.func48 (by kernel_rfl) rfl #[.string t103] rfl (by (try simp only [List.map_toArray, List.map_cons, List.map_nil]); first | done | rfl | (simp only [List.length_drop, List.length_take]; rfl)) ?_; (with_reducible refine (name_Check.calls t103 t108 _ A14.out).mono ?_); rintro e w17 ⟨rfl, hb⟩; refine ⟨_, rfl, ?_⟩; have n0_ := Aside0.mk (blk_below (g := gb107) (o := .cells #[.int .i64 t105, .int .i64 t106] 31 (0, 0)) (by (with_reducible repeat (first | refine blk_drewN ?_ _ | refine blk_drew ?_ | refine blk_alloc ?_ _)); refine blk_put (cs := #[.int .i64 t105, .int .i64 0]) ?_ 1 _ rfl; (with_reducible repeat (first | refine blk_drewN ?_ _ | refine blk_drew ?_ | refine blk_alloc ?_ _)); refine blk_put (cs := #[.int .i64 0, .int .i64 0]) ?_ 0 _ rfl; (with_reducible repeat (first | refine blk_drewN ?_ _ | refine blk_drew ?_ | refine blk_alloc ?_ _)); exact BK107.out) hb); have n1_ := Aside0.mk (below_step (by repeat (first | (with_reducible first | exact HB.out | apply below_alloc | apply pw_below_drewN | apply below_drew1 | refine below_set ?_ GE107.out) | exact HB.out)) hb); clear BK107; clear HB; have BK107 := n0_; have HB := n1_; clear n0_ n1_; (try clear hb); (try clear hb2); (try clear hk); (try clear hi)))
            go_meet
            case rel => exact ⟨_, (true), (by first | rfl | (simp; done) | (simp [*]; done)), H', ⟨by first | omega | exact Nat.le_refl _⟩, ⟨by (with_reducible repeat (first | refine blk_drewN ?_ _ | refine blk_drew ?_ | refine blk_alloc ?_ _)); exact BK107.out⟩, ⟨by repeat (first | (with_reducible first | exact HB.out | apply below_alloc | apply pw_below_drewN | apply below_drew1 | refine below_set ?_ GE107.out) | exact HB.out)⟩⟩
          · rw [if_neg c16] at H
            have c16b0 : decide (t104 ≤ t102) = false := decide_eq_false c16
            clear c16
            by_cases c18 : t104 > (l0.length : Int)
            · rw [if_pos c18] at H
              have c18b0 : decide ((l0.length : Int) < t104) = true := decide_eq_true c18
              clear c18
              have H' := Aside0.mk H
              clear H
              go_wp2_with (first | ((with_reducible refine gate_callee (f := 48) rfl ?_); refine goesL_ (some 54) rfl rfl Try.func48 (by kernel_rfl) rfl #[.string t103] rfl (by (try simp only [List.map_toArray, List.map_cons, List.map_nil]); first | done | rfl | (simp only [List.length_drop, List.length_take]; rfl)) ?_; (with_reducible refine (name_Check.calls t103 t108 _ A14.out).mono ?_); rintro e w19 ⟨rfl, hb⟩; refine ⟨_, rfl, ?_⟩; have n0_ := Aside0.mk (blk_below (g := gb107) (o := .cells #[.int .i64 t105, .int .i64 t106] 31 (0, 0)) (by (with_reducible repeat (first | refine blk_drewN ?_ _ | refine blk_drew ?_ | refine blk_alloc ?_ _)); refine blk_put (cs := #[.int .i64 t105, .int .i64 0]) ?_ 1 _ rfl; (with_reducible repeat (first | refine blk_drewN ?_ _ | refine blk_drew ?_ | refine blk_alloc ?_ _)); refine blk_put (cs := #[.int .i64 0, .int .i64 0]) ?_ 0 _ rfl; (with_reducible repeat (first | refine blk_drewN ?_ _ | refine blk_drew ?_ | refine blk_alloc ?_ _)); exact BK107.out) hb); have n1_ := Aside0.mk (below_step (by repeat (first | (with_reducible first | exact HB.out | apply below_alloc | apply pw_below_drewN | apply below_drew1 | refine below_set ?_ GE107.out) | exact HB.out)) hb); clear BK107; clear HB; have BK107 := n0_; have HB := n1_; clear n0_ n1_; (try clear hb); (try clear hb2); (try clear hk); (try clear hi)))
              go_meet
              case rel => exact ⟨_, (true), (by first | rfl | (simp; done) | (simp [*]; done)), H', ⟨by first | omega | exact Nat.le_refl _⟩, ⟨by (with_reducible repeat (first | refine blk_drewN ?_ _ | refine blk_drew ?_ | refine blk_alloc ?_ _)); exact BK107.out⟩, ⟨by repeat (first | (with_reducible first | exact HB.out | apply below_alloc | apply pw_below_drewN | apply below_drew1 | refine below_set ?_ GE107.out) | exact HB.out)⟩⟩
            · rw [if_neg c18] at H
              have c18b0 : decide ((l0.length : Int) < t104) = false := decide_eq_false c18
              clear c18
              have H' := Aside0.mk H
              clear H
              go_wp2_with (first | ((with_reducible refine gate_callee (f := 48) rfl ?_); refine goesL_ (some 54) rfl rfl Try.func48 (by kernel_rfl) rfl #[.string t103] rfl (by (try simp only [List.map_toArray, List.map_cons, List.map_nil]); first | done | rfl | (simp only [List.length_drop, List.length_take]; rfl)) ?_; (with_reducible refine (name_Check.calls t103 t108 _ A14.out).mono ?_); rintro e w20 ⟨rfl, hb⟩; refine ⟨_, rfl, ?_⟩; have n0_ := Aside0.mk (blk_below (g := gb107) (o := .cells #[.int .i64 t105, .int .i64 t106] 31 (0, 0)) (by (with_reducible repeat (first | refine blk_drewN ?_ _ | refine blk_drew ?_ | refine blk_alloc ?_ _)); refine blk_put (cs := #[.int .i64 t105, .int .i64 0]) ?_ 1 _ rfl; (with_reducible repeat (first | refine blk_drewN ?_ _ | refine blk_drew ?_ | refine blk_alloc ?_ _)); refine blk_put (cs := #[.int .i64 0, .int .i64 0]) ?_ 0 _ rfl; (with_reducible repeat (first | refine blk_drewN ?_ _ | refine blk_drew ?_ | refine blk_alloc ?_ _)); exact BK107.out) hb); have n1_ := Aside0.mk (below_step (by repeat (first | (with_reducible first | exact HB.out | apply below_alloc | apply pw_below_drewN | apply below_drew1 | refine below_set ?_ GE107.out) | exact HB.out)) hb); clear BK107; clear HB; have BK107 := n0_; have HB := n1_; clear n0_ n1_; (try clear hb); (try clear hb2); (try clear hk); (try clear hi)))
              go_meet
              case rel => exact ⟨_, (decide ((wrap64 (t104 - t102)) > 256)), (by first | rfl | (simp; done) | (simp [*]; done)), H', ⟨by first | omega | exact Nat.le_refl _⟩, ⟨by (with_reducible repeat (first | refine blk_drewN ?_ _ | refine blk_drew ?_ | refine blk_alloc ?_ _)); exact BK107.out⟩, ⟨by repeat (first | (with_reducible first | exact HB.out | apply below_alloc | apply pw_below_drewN | apply below_drew1 | refine below_set ?_ GE107.out) | exact HB.out)⟩⟩
        · rw [if_neg c15] at H
          have c15b0 : (t108 == 0) = false := beq_eq_false_iff_ne.mpr c15
          have c15b1 : (t108 != 0) = true := bne_iff_ne.mpr c15
          (first | rw [c15b0] | (simp only [i64_w, i32_w]; rw [c15b0]) | skip)
          have H' := Aside0.mk H
          clear H
          go_wp2_with (first | ((with_reducible refine gate_callee (f := 48) rfl ?_); refine goesL_ (some 54) rfl rfl Try.func48 (by kernel_rfl) rfl #[.string t103] rfl (by (try simp only [List.map_toArray, List.map_cons, List.map_nil]); first | done | rfl | (simp only [List.length_drop, List.length_take]; rfl)) ?_; (with_reducible refine (name_Check.calls t103 t108 _ A14.out).mono ?_); rintro e w21 ⟨rfl, hb⟩; refine ⟨_, rfl, ?_⟩; have n0_ := Aside0.mk (blk_below (g := gb107) (o := .cells #[.int .i64 t105, .int .i64 t106] 31 (0, 0)) (by (with_reducible repeat (first | refine blk_drewN ?_ _ | refine blk_drew ?_ | refine blk_alloc ?_ _)); refine blk_put (cs := #[.int .i64 t105, .int .i64 0]) ?_ 1 _ rfl; (with_reducible repeat (first | refine blk_drewN ?_ _ | refine blk_drew ?_ | refine blk_alloc ?_ _)); refine blk_put (cs := #[.int .i64 0, .int .i64 0]) ?_ 0 _ rfl; (with_reducible repeat (first | refine blk_drewN ?_ _ | refine blk_drew ?_ | refine blk_alloc ?_ _)); exact BK107.out) hb); have n1_ := Aside0.mk (below_step (by repeat (first | (with_reducible first | exact HB.out | apply below_alloc | apply pw_below_drewN | apply below_drew1 | refine below_set ?_ GE107.out) | exact HB.out)) hb); clear BK107; clear HB; have BK107 := n0_; have HB := n1_; clear n0_ n1_; (try clear hb); (try clear hb2); (try clear hk); (try clear hi)))
          go_meet
          case rel => exact ⟨_, (true), (by first | rfl | (simp; done) | (simp [*]; done)), H', ⟨by first | omega | exact Nat.le_refl _⟩, ⟨by (with_reducible repeat (first | refine blk_drewN ?_ _ | refine blk_drew ?_ | refine blk_alloc ?_ _)); exact BK107.out⟩, ⟨by repeat (first | (with_reducible first | exact HB.out | apply below_alloc | apply pw_below_drewN | apply below_drew1 | refine below_set ?_ GE107.out) | exact HB.out)⟩⟩
      case rest =>
        clear HC9
        try clear c1
        try clear p2
        try clear c3
        try clear c4
        try clear c4b0
        try clear c4b1
        try clear p6
        try clear c8
        try clear c8b0
        try clear c8b1
        try clear c9
        try clear c15
        try clear c15b0
        try clear c15b1
        try clear c16
        try clear c16b0
        try clear c18
        try clear c18b0
        try clear hcz13_0
        try clear hcz13_1
        try clear hfz13_0
        try clear hfz13_1
        obtain ⟨kq, x72_8, rfl, HA, HJ8, BK107, HB⟩ := hcut
        cases kq with
        | zero => exact absurd HA.out (by simp [ostiarylaw05_WireEnds.j0])
        | succ kj8 =>
          have H := HA.out
          clear HA
          simp only [ostiarylaw05_WireEnds.j0] at H
          by_cases c22 : x72_8 = true
          · subst c22
            have H1 : (some false) = some r := by rw [if_pos rfl] at H; exact H
            clear H
            have H := H1
            clear H1
            obtain rfl := Option.some.inj H
            go_wp2
            go_ret
            exact ⟨by first | rfl | (simp [errW_none, errW_some] <;> rfl) | (simp [*, errW_none, errW_some] <;> rfl), by repeat (first | (with_reducible first | exact HB.out | apply below_alloc | apply pw_below_drewN | apply below_drew1 | refine below_set ?_ GE107.out) | exact HB.out)⟩
          · replace c22 := Bool.eq_false_iff.mpr c22
            subst c22
            have H1 : (if 0 ≤ (wrap64 (t104 - 1)) then (if (wrap64 (t104 - 1)) < (l0.length : Int) then (if (rd l0 (wrap64 (t104 - 1))) = 0 then (if (wrap64 (t104 - t102)) = (t103.size : Int) then (if 0 ≤ t102 then (if t102 ≤ (l0.length : Int) then ((wire_Read.f kj8 (l0.drop (t102 : Int).toNat) 0).bind fun bt111 => (if t101 = true then (if bt111.2.2.1 = 0 then (if bt111.1.toList = t103.toList then (some (bt111.2.1 == (wrap64 (t104 - t102)))) else (some false)) else (some false)) else (some false))) else (none)) else (none)) else (some t101)) else (some t101)) else (none)) else (none)) = some r := by rw [if_neg (show ¬ (false = true) by decide)] at H; exact H
            clear H
            have H := H1
            clear H1
            obtain ⟨ji23, hji23⟩ : ∃ j_ : Int, (wrap64 (t104 - 1)) = j_ := ⟨_, rfl⟩
            replace H : (if 0 ≤ (ji23) then (if (ji23) < (l0.length : Int) then (if (rd l0 (ji23)) = 0 then (if (wrap64 (t104 - t102)) = (t103.size : Int) then (if 0 ≤ t102 then (if t102 ≤ (l0.length : Int) then ((wire_Read.f kj8 (l0.drop (t102 : Int).toNat) 0).bind fun bt111 => (if t101 = true then (if bt111.2.2.1 = 0 then (if bt111.1.toList = t103.toList then (some (bt111.2.1 == (wrap64 (t104 - t102)))) else (some false)) else (some false)) else (some false))) else (none)) else (none)) else (some t101)) else (some t101)) else (none)) else (none)) = some r := by first | (rw [hji23] at H; exact H) | (simp only [hji23] at H ⊢; exact H)
            have hji23w : (IntKind.i64.wrap (t104 - 1)) = ji23 := (i64_w _).trans hji23
            by_cases c24 : 0 ≤ (ji23)
            · rw [if_pos c24] at H
              have c24b0 : decide (0 ≤ (ji23)) = true := decide_eq_true c24
              clear c24
              by_cases c25 : (ji23) < (l0.length : Int)
              · rw [if_pos c25] at H
                have c25b0 : decide ((ji23) < (l0.length : Int)) = true := decide_eq_true c25
                clear c25
                by_cases c26 : (rd l0 (ji23)) = 0
                · rw [if_pos c26] at H
                  have c26b0 : ((rd l0 (ji23)) == 0) = true := beq_iff_eq.mpr c26
                  have c26b1 : ((rd l0 (ji23)) != 0) = false := bne_eq_false_iff_eq.mpr c26
                  clear c26
                  by_cases c27 : (wrap64 (t104 - t102)) = (t103.size : Int)
                  · rw [if_pos c27] at H
                    have c27b0 : ((wrap64 (t104 - t102)) == (t103.size : Int)) = true := beq_iff_eq.mpr c27
                    have c27b1 : ((wrap64 (t104 - t102)) != (t103.size : Int)) = false := bne_eq_false_iff_eq.mpr c27
                    clear c27
                    by_cases c28 : 0 ≤ t102
                    · rw [if_pos c28] at H
                      have c28b0 := eq_true c28
                      have c28b1 : decide (0 ≤ t102) = true := decide_eq_true c28
                      clear c28
                      by_cases c29 : t102 ≤ (l0.length : Int)
                      · rw [if_pos c29] at H
                        have c29b0 := eq_true c29
                        have c29b1 : decide (t102 ≤ (l0.length : Int)) = true := decide_eq_true c29
                        clear c29
                        replace H := Option.bind_eq_some_iff.mp H
                        obtain ⟨⟨t111, t112, t113, t114⟩, A300, H⟩ := H
                        replace H : (if t101 = true then (if t113 = 0 then (if t111.toList = t103.toList then (some (t112 == (wrap64 (t104 - t102)))) else (some false)) else (some false)) else (some false)) = some r := H
                        have A30 := Aside0.mk A300
                        clear A300
                        by_cases c31 : t101 = true
                        · subst c31
                          have H1 : (if t113 = 0 then (if t111.toList = t103.toList then (some (t112 == (wrap64 (t104 - t102)))) else (some false)) else (some false)) = some r := by rw [if_pos rfl] at H; exact H
                          clear H
                          have H := H1
                          clear H1
                          by_cases c32 : t113 = 0
                          · rw [if_pos c32] at H
                            have c32b0 : (t113 == 0) = true := beq_iff_eq.mpr c32
                            have c32b1 : (t113 != 0) = false := bne_eq_false_iff_eq.mpr c32
                            clear c32
                            by_cases c33 : t111.toList = t103.toList
                            · rw [if_pos c33] at H
                              have c33b0 : (t111.toList == t103.toList) = true := beq_iff_eq.mpr c33
                              have c33b1 : (t111.toList != t103.toList) = false := bne_eq_false_iff_eq.mpr c33
                              clear c33
                              obtain rfl := Option.some.inj H
                              have p109 : 0 ≤ ((ji23) : Int) := of_decide_eq_true (by first | (with_reducible assumption) | assumption)
                              have q109 : (ji23) < (l0.length : Int) := of_decide_eq_true (by first | (with_reducible assumption) | assumption)
                              obtain ⟨ad109, e109, hx109_0⟩ := Kd.at_int HR0.out (ji23) p109 q109
                              cases e109
                              replace hx109_0 := (HB.out.cell (World.block_lt_of_cell? w _ hx109_0)).trans hx109_0
                              replace p109 := eq_true p109
                              replace q109 := eq_true q109
                              obtain ⟨i034, hi034, _, hsz34, _⟩ := info_parts info5
                              obtain ⟨A34, hcut34, hA34, hC34⟩ := print_drop_of (P := Try.prog) (Value.int .u8) 0 22 5 .i64 Try.underlying22 hi034 hsz34 (some ad109) c0 l0 t102 (of_decide_eq_true (by first | (with_reducible assumption) | assumption)) (of_decide_eq_true (by first | (with_reducible assumption) | assumption)) HC0.out
                              have HR110 := Aside0.mk (Kd.C_of_reads (h1 := fun _ => rfl) (hA34 _ (Kd.reads_of_C HR0.out)))
                              have HC110 := Aside0.mk hC34
                              clear hA34 hC34 hi034 hsz34
                              go_wp2_with (first | ((with_reducible refine gate_callee (f := 45) rfl ?_); refine goesL_ (some 92) rfl rfl Try.func45 (by kernel_rfl) rfl #[.slice A34 (l0.drop (t102 : Int).toNat).length (c0 - t102.toNat), .int .i64 0] rfl (by (try simp only [List.map_toArray, List.map_cons, List.map_nil]); first | done | (rw [show (l0.drop (t102 : Int).toNat).length = (l0.length - t102.toNat) from List.length_drop] <;> rfl) | rfl | (simp only [List.length_drop, List.length_take]; rfl)) ?_; (with_reducible refine (wire_Read.calls kj8 _ _ (l0.drop (t102 : Int).toNat) 0 t111 t112 t113 t114 _ ?side1 ?side2 A30.out).mono ?_); (case side1 => repeat (first | exact (Kd.C_below HR110.out HB.out) | (with_reducible refine Kd.C_alloc ?_ _) | (with_reducible refine Kd.C_drewN ?_ _) | (with_reducible refine Kd.C_drew ?_))); (case side2 => exact HC110.out); rintro e w35 ⟨rfl, hb⟩; refine ⟨_, rfl, ?_⟩; have n0_ := Aside0.mk (blk_below (g := gb107) (o := .cells #[.int .i64 t105, .int .i64 t106] 31 (0, 0)) (by (with_reducible repeat (first | refine blk_drewN ?_ _ | refine blk_drew ?_ | refine blk_alloc ?_ _)); exact BK107.out) hb); have n1_ := Aside0.mk (below_step (by repeat (first | (with_reducible first | exact HB.out | apply below_alloc | apply pw_below_drewN | apply below_drew1 | refine below_set ?_ GE107.out) | exact HB.out)) hb); clear BK107; clear HB; have BK107 := n0_; have HB := n1_; clear n0_ n1_; (try clear hb); (try clear hb2); (try clear hk); (try clear hi)) | ((with_reducible refine gate_dst (N := 11) rfl ?_); (try (refine gate_guard (by rfl) ?_; dsimp only)); refine box_event ?hg (N := 11) ?hd (cs := #[.int .i64 0, .int .i64 0]) (t := 31) ?hr ?_; (case hd => rfl); (case hg => rfl); (case hr => first | (go_simp; done) | (go_simp; rfl)); intro gb115 hg w36 hbox hb; have n0_ := Aside0.mk (blk_below (g := gb107) (o := .cells #[.int .i64 t105, .int .i64 t106] 31 (0, 0)) (by (with_reducible repeat (first | refine blk_drewN ?_ _ | refine blk_drew ?_ | refine blk_alloc ?_ _)); exact BK107.out) hb); have n1_ := Aside0.mk (below_step (by repeat (first | (with_reducible first | exact HB.out | apply below_alloc | apply pw_below_drewN | apply below_drew1 | refine below_set ?_ GE107.out) | exact HB.out)) hb); have n2_ := Aside0.mk (hbox); have n3_ := Aside0.mk ((by rw [hg]; exact (below_size (by repeat (first | (with_reducible first | exact HB.out | apply below_alloc | apply pw_below_drewN | apply below_drew1 | refine below_set ?_ GE107.out) | exact HB.out))) : w.heap.size ≤ gb115)); have n4_ := Aside0.mk ((by rw [hg]; exact (below_size (by repeat (first | (with_reducible first | exact HB.out | apply below_alloc | apply pw_below_drewN | apply below_drew1 | refine below_set ?_ GE107.out) | exact HB.out))) : w.heap.size ≤ gb115)); have n5_ := Aside0.mk ((by rw [hg]; exact Nat.ne_of_lt (blk_lt (g := gb107) (o := .cells #[.int .i64 t105, .int .i64 t106] 31 (0, 0)) (by (with_reducible repeat (first | refine blk_drewN ?_ _ | refine blk_drew ?_ | refine blk_alloc ?_ _)); exact BK107.out)) : gb107 ≠ gb115)); have n6_ := Aside0.mk ((by rw [hg]; exact Nat.ne_of_gt (blk_lt (g := gb107) (o := .cells #[.int .i64 t105, .int .i64 t106] 31 (0, 0)) (by (with_reducible repeat (first | refine blk_drewN ?_ _ | refine blk_drew ?_ | refine blk_alloc ?_ _)); exact BK107.out)) : gb115 ≠ gb107)); clear BK107; clear HB; have BK107 := n0_; have HB := n1_; have BK115 := n2_; have GW115 := n3_; have GE115 := n4_; have NB107_115 := n5_; have NB115_107 := n6_; clear n0_ n1_ n2_ n3_ n4_ n5_ n6_; clear hb hbox hg; have hnb37 := NB115_107.out; have hnc37 := NB107_115.out; have hcz38_0 : w36.cell? ⟨gb115, 0, none⟩ = some (.int .i64 0) := (blk_cell BK115.out 0).trans rfl; have hcz38_1 : w36.cell? ⟨gb115, 1, none⟩ = some (.int .i64 0) := (blk_cell BK115.out 1).trans rfl; have hfz38_0 := blk_frozen BK115.out 0; have hfz38_1 := blk_frozen BK115.out 1))
                              go_ret
                              exact ⟨by first | rfl | (simp [errW_none, errW_some] <;> rfl) | (simp only [← hji23]; first | rfl | (simp [errW_none, errW_some] <;> rfl)) | (simp [*, errW_none, errW_some] <;> rfl), by repeat (first | (with_reducible first | exact HB.out | apply below_alloc | apply pw_below_drewN | apply below_drew1 | refine below_set ?_ GE107.out | refine below_set ?_ GE115.out) | exact HB.out)⟩
                            · rw [if_neg c33] at H
                              have c33b0 : (t111.toList == t103.toList) = false := beq_eq_false_iff_ne.mpr c33
                              have c33b1 : (t111.toList != t103.toList) = true := bne_iff_ne.mpr c33
                              obtain rfl := Option.some.inj H
                              have p109 : 0 ≤ ((ji23) : Int) := of_decide_eq_true (by first | (with_reducible assumption) | assumption)
                              have q109 : (ji23) < (l0.length : Int) := of_decide_eq_true (by first | (with_reducible assumption) | assumption)
                              obtain ⟨ad109, e109, hx109_0⟩ := Kd.at_int HR0.out (ji23) p109 q109
                              cases e109
                              replace hx109_0 := (HB.out.cell (World.block_lt_of_cell? w _ hx109_0)).trans hx109_0
                              replace p109 := eq_true p109
                              replace q109 := eq_true q109
                              obtain ⟨i039, hi039, _, hsz39, _⟩ := info_parts info5
                              obtain ⟨A39, hcut39, hA39, hC39⟩ := print_drop_of (P := Try.prog) (Value.int .u8) 0 22 5 .i64 Try.underlying22 hi039 hsz39 (some ad109) c0 l0 t102 (of_decide_eq_true (by first | (with_reducible assumption) | assumption)) (of_decide_eq_true (by first | (with_reducible assumption) | assumption)) HC0.out
                              have HR110 := Aside0.mk (Kd.C_of_reads (h1 := fun _ => rfl) (hA39 _ (Kd.reads_of_C HR0.out)))
                              have HC110 := Aside0.mk hC39
                              clear hA39 hC39 hi039 hsz39
                              go_wp2_with (first | ((with_reducible refine gate_callee (f := 45) rfl ?_); refine goesL_ (some 92) rfl rfl Try.func45 (by kernel_rfl) rfl #[.slice A39 (l0.drop (t102 : Int).toNat).length (c0 - t102.toNat), .int .i64 0] rfl (by (try simp only [List.map_toArray, List.map_cons, List.map_nil]); first | done | (rw [show (l0.drop (t102 : Int).toNat).length = (l0.length - t102.toNat) from List.length_drop] <;> rfl) | rfl | (simp only [List.length_drop, List.length_take]; rfl)) ?_; (with_reducible refine (wire_Read.calls kj8 _ _ (l0.drop (t102 : Int).toNat) 0 t111 t112 t113 t114 _ ?side1 ?side2 A30.out).mono ?_); (case side1 => repeat (first | exact (Kd.C_below HR110.out HB.out) | (with_reducible refine Kd.C_alloc ?_ _) | (with_reducible refine Kd.C_drewN ?_ _) | (with_reducible refine Kd.C_drew ?_))); (case side2 => exact HC110.out); rintro e w40 ⟨rfl, hb⟩; refine ⟨_, rfl, ?_⟩; have n0_ := Aside0.mk (blk_below (g := gb107) (o := .cells #[.int .i64 t105, .int .i64 t106] 31 (0, 0)) (by (with_reducible repeat (first | refine blk_drewN ?_ _ | refine blk_drew ?_ | refine blk_alloc ?_ _)); exact BK107.out) hb); have n1_ := Aside0.mk (below_step (by repeat (first | (with_reducible first | exact HB.out | apply below_alloc | apply pw_below_drewN | apply below_drew1 | refine below_set ?_ GE107.out) | exact HB.out)) hb); clear BK107; clear HB; have BK107 := n0_; have HB := n1_; clear n0_ n1_; (try clear hb); (try clear hb2); (try clear hk); (try clear hi)) | ((with_reducible refine gate_dst (N := 11) rfl ?_); (try (refine gate_guard (by rfl) ?_; dsimp only)); refine box_event ?hg (N := 11) ?hd (cs := #[.int .i64 0, .int .i64 0]) (t := 31) ?hr ?_; (case hd => rfl); (case hg => rfl); (case hr => first | (go_simp; done) | (go_simp; rfl)); intro gb115 hg w41 hbox hb; have n0_ := Aside0.mk (blk_below (g := gb107) (o := .cells #[.int .i64 t105, .int .i64 t106] 31 (0, 0)) (by (with_reducible repeat (first | refine blk_drewN ?_ _ | refine blk_drew ?_ | refine blk_alloc ?_ _)); exact BK107.out) hb); have n1_ := Aside0.mk (below_step (by repeat (first | (with_reducible first | exact HB.out | apply below_alloc | apply pw_below_drewN | apply below_drew1 | refine below_set ?_ GE107.out) | exact HB.out)) hb); have n2_ := Aside0.mk (hbox); have n3_ := Aside0.mk ((by rw [hg]; exact (below_size (by repeat (first | (with_reducible first | exact HB.out | apply below_alloc | apply pw_below_drewN | apply below_drew1 | refine below_set ?_ GE107.out) | exact HB.out))) : w.heap.size ≤ gb115)); have n4_ := Aside0.mk ((by rw [hg]; exact (below_size (by repeat (first | (with_reducible first | exact HB.out | apply below_alloc | apply pw_below_drewN | apply below_drew1 | refine below_set ?_ GE107.out) | exact HB.out))) : w.heap.size ≤ gb115)); have n5_ := Aside0.mk ((by rw [hg]; exact Nat.ne_of_lt (blk_lt (g := gb107) (o := .cells #[.int .i64 t105, .int .i64 t106] 31 (0, 0)) (by (with_reducible repeat (first | refine blk_drewN ?_ _ | refine blk_drew ?_ | refine blk_alloc ?_ _)); exact BK107.out)) : gb107 ≠ gb115)); have n6_ := Aside0.mk ((by rw [hg]; exact Nat.ne_of_gt (blk_lt (g := gb107) (o := .cells #[.int .i64 t105, .int .i64 t106] 31 (0, 0)) (by (with_reducible repeat (first | refine blk_drewN ?_ _ | refine blk_drew ?_ | refine blk_alloc ?_ _)); exact BK107.out)) : gb115 ≠ gb107)); clear BK107; clear HB; have BK107 := n0_; have HB := n1_; have BK115 := n2_; have GW115 := n3_; have GE115 := n4_; have NB107_115 := n5_; have NB115_107 := n6_; clear n0_ n1_ n2_ n3_ n4_ n5_ n6_; clear hb hbox hg; have hnb42 := NB115_107.out; have hnc42 := NB107_115.out; have hcz43_0 : w41.cell? ⟨gb115, 0, none⟩ = some (.int .i64 0) := (blk_cell BK115.out 0).trans rfl; have hcz43_1 : w41.cell? ⟨gb115, 1, none⟩ = some (.int .i64 0) := (blk_cell BK115.out 1).trans rfl; have hfz43_0 := blk_frozen BK115.out 0; have hfz43_1 := blk_frozen BK115.out 1))
                              go_ret
                              exact ⟨by first | rfl | (simp [errW_none, errW_some] <;> rfl) | (simp only [← hji23]; first | rfl | (simp [errW_none, errW_some] <;> rfl)) | (simp [*, errW_none, errW_some] <;> rfl), by repeat (first | (with_reducible first | exact HB.out | apply below_alloc | apply pw_below_drewN | apply below_drew1 | refine below_set ?_ GE107.out | refine below_set ?_ GE115.out) | exact HB.out)⟩
                          · rw [if_neg c32] at H
                            have c32b0 : (t113 == 0) = false := beq_eq_false_iff_ne.mpr c32
                            have c32b1 : (t113 != 0) = true := bne_iff_ne.mpr c32
                            obtain rfl := Option.some.inj H
                            have p109 : 0 ≤ ((ji23) : Int) := of_decide_eq_true (by first | (with_reducible assumption) | assumption)
                            have q109 : (ji23) < (l0.length : Int) := of_decide_eq_true (by first | (with_reducible assumption) | assumption)
                            obtain ⟨ad109, e109, hx109_0⟩ := Kd.at_int HR0.out (ji23) p109 q109
                            cases e109
                            replace hx109_0 := (HB.out.cell (World.block_lt_of_cell? w _ hx109_0)).trans hx109_0
                            replace p109 := eq_true p109
                            replace q109 := eq_true q109
                            obtain ⟨i044, hi044, _, hsz44, _⟩ := info_parts info5
                            obtain ⟨A44, hcut44, hA44, hC44⟩ := print_drop_of (P := Try.prog) (Value.int .u8) 0 22 5 .i64 Try.underlying22 hi044 hsz44 (some ad109) c0 l0 t102 (of_decide_eq_true (by first | (with_reducible assumption) | assumption)) (of_decide_eq_true (by first | (with_reducible assumption) | assumption)) HC0.out
                            have HR110 := Aside0.mk (Kd.C_of_reads (h1 := fun _ => rfl) (hA44 _ (Kd.reads_of_C HR0.out)))
                            have HC110 := Aside0.mk hC44
                            clear hA44 hC44 hi044 hsz44
                            go_wp2_with (first | ((with_reducible refine gate_callee (f := 45) rfl ?_); refine goesL_ (some 92) rfl rfl Try.func45 (by kernel_rfl) rfl #[.slice A44 (l0.drop (t102 : Int).toNat).length (c0 - t102.toNat), .int .i64 0] rfl (by (try simp only [List.map_toArray, List.map_cons, List.map_nil]); first | done | (rw [show (l0.drop (t102 : Int).toNat).length = (l0.length - t102.toNat) from List.length_drop] <;> rfl) | rfl | (simp only [List.length_drop, List.length_take]; rfl)) ?_; (with_reducible refine (wire_Read.calls kj8 _ _ (l0.drop (t102 : Int).toNat) 0 t111 t112 t113 t114 _ ?side1 ?side2 A30.out).mono ?_); (case side1 => repeat (first | exact (Kd.C_below HR110.out HB.out) | (with_reducible refine Kd.C_alloc ?_ _) | (with_reducible refine Kd.C_drewN ?_ _) | (with_reducible refine Kd.C_drew ?_))); (case side2 => exact HC110.out); rintro e w45 ⟨rfl, hb⟩; refine ⟨_, rfl, ?_⟩; have n0_ := Aside0.mk (blk_below (g := gb107) (o := .cells #[.int .i64 t105, .int .i64 t106] 31 (0, 0)) (by (with_reducible repeat (first | refine blk_drewN ?_ _ | refine blk_drew ?_ | refine blk_alloc ?_ _)); exact BK107.out) hb); have n1_ := Aside0.mk (below_step (by repeat (first | (with_reducible first | exact HB.out | apply below_alloc | apply pw_below_drewN | apply below_drew1 | refine below_set ?_ GE107.out) | exact HB.out)) hb); clear BK107; clear HB; have BK107 := n0_; have HB := n1_; clear n0_ n1_; (try clear hb); (try clear hb2); (try clear hk); (try clear hi)) | ((with_reducible refine gate_dst (N := 11) rfl ?_); (try (refine gate_guard (by rfl) ?_; dsimp only)); refine box_event ?hg (N := 11) ?hd (cs := #[.int .i64 0, .int .i64 0]) (t := 31) ?hr ?_; (case hd => rfl); (case hg => rfl); (case hr => first | (go_simp; done) | (go_simp; rfl)); intro gb115 hg w46 hbox hb; have n0_ := Aside0.mk (blk_below (g := gb107) (o := .cells #[.int .i64 t105, .int .i64 t106] 31 (0, 0)) (by (with_reducible repeat (first | refine blk_drewN ?_ _ | refine blk_drew ?_ | refine blk_alloc ?_ _)); exact BK107.out) hb); have n1_ := Aside0.mk (below_step (by repeat (first | (with_reducible first | exact HB.out | apply below_alloc | apply pw_below_drewN | apply below_drew1 | refine below_set ?_ GE107.out) | exact HB.out)) hb); have n2_ := Aside0.mk (hbox); have n3_ := Aside0.mk ((by rw [hg]; exact (below_size (by repeat (first | (with_reducible first | exact HB.out | apply below_alloc | apply pw_below_drewN | apply below_drew1 | refine below_set ?_ GE107.out) | exact HB.out))) : w.heap.size ≤ gb115)); have n4_ := Aside0.mk ((by rw [hg]; exact (below_size (by repeat (first | (with_reducible first | exact HB.out | apply below_alloc | apply pw_below_drewN | apply below_drew1 | refine below_set ?_ GE107.out) | exact HB.out))) : w.heap.size ≤ gb115)); have n5_ := Aside0.mk ((by rw [hg]; exact Nat.ne_of_lt (blk_lt (g := gb107) (o := .cells #[.int .i64 t105, .int .i64 t106] 31 (0, 0)) (by (with_reducible repeat (first | refine blk_drewN ?_ _ | refine blk_drew ?_ | refine blk_alloc ?_ _)); exact BK107.out)) : gb107 ≠ gb115)); have n6_ := Aside0.mk ((by rw [hg]; exact Nat.ne_of_gt (blk_lt (g := gb107) (o := .cells #[.int .i64 t105, .int .i64 t106] 31 (0, 0)) (by (with_reducible repeat (first | refine blk_drewN ?_ _ | refine blk_drew ?_ | refine blk_alloc ?_ _)); exact BK107.out)) : gb115 ≠ gb107)); clear BK107; clear HB; have BK107 := n0_; have HB := n1_; have BK115 := n2_; have GW115 := n3_; have GE115 := n4_; have NB107_115 := n5_; have NB115_107 := n6_; clear n0_ n1_ n2_ n3_ n4_ n5_ n6_; clear hb hbox hg; have hnb47 := NB115_107.out; have hnc47 := NB107_115.out; have hcz48_0 : w46.cell? ⟨gb115, 0, none⟩ = some (.int .i64 0) := (blk_cell BK115.out 0).trans rfl; have hcz48_1 : w46.cell? ⟨gb115, 1, none⟩ = some (.int .i64 0) := (blk_cell BK115.out 1).trans rfl; have hfz48_0 := blk_frozen BK115.out 0; have hfz48_1 := blk_frozen BK115.out 1))
                            go_ret
                            exact ⟨by first | rfl | (simp [errW_none, errW_some] <;> rfl) | (simp only [← hji23]; first | rfl | (simp [errW_none, errW_some] <;> rfl)) | (simp [*, errW_none, errW_some] <;> rfl), by repeat (first | (with_reducible first | exact HB.out | apply below_alloc | apply pw_below_drewN | apply below_drew1 | refine below_set ?_ GE107.out | refine below_set ?_ GE115.out) | exact HB.out)⟩
                        · replace c31 := Bool.eq_false_iff.mpr c31
                          subst c31
                          have H1 : (some false) = some r := by rw [if_neg (show ¬ (false = true) by decide)] at H; exact H
                          clear H
                          have H := H1
                          clear H1
                          obtain rfl := Option.some.inj H
                          have p109 : 0 ≤ ((ji23) : Int) := of_decide_eq_true (by first | (with_reducible assumption) | assumption)
                          have q109 : (ji23) < (l0.length : Int) := of_decide_eq_true (by first | (with_reducible assumption) | assumption)
                          obtain ⟨ad109, e109, hx109_0⟩ := Kd.at_int HR0.out (ji23) p109 q109
                          cases e109
                          replace hx109_0 := (HB.out.cell (World.block_lt_of_cell? w _ hx109_0)).trans hx109_0
                          replace p109 := eq_true p109
                          replace q109 := eq_true q109
                          obtain ⟨i049, hi049, _, hsz49, _⟩ := info_parts info5
                          obtain ⟨A49, hcut49, hA49, hC49⟩ := print_drop_of (P := Try.prog) (Value.int .u8) 0 22 5 .i64 Try.underlying22 hi049 hsz49 (some ad109) c0 l0 t102 (of_decide_eq_true (by first | (with_reducible assumption) | assumption)) (of_decide_eq_true (by first | (with_reducible assumption) | assumption)) HC0.out
                          have HR110 := Aside0.mk (Kd.C_of_reads (h1 := fun _ => rfl) (hA49 _ (Kd.reads_of_C HR0.out)))
                          have HC110 := Aside0.mk hC49
                          clear hA49 hC49 hi049 hsz49
                          go_wp2_with (first | ((with_reducible refine gate_callee (f := 45) rfl ?_); refine goesL_ (some 92) rfl rfl Try.func45 (by kernel_rfl) rfl #[.slice A49 (l0.drop (t102 : Int).toNat).length (c0 - t102.toNat), .int .i64 0] rfl (by (try simp only [List.map_toArray, List.map_cons, List.map_nil]); first | done | (rw [show (l0.drop (t102 : Int).toNat).length = (l0.length - t102.toNat) from List.length_drop] <;> rfl) | rfl | (simp only [List.length_drop, List.length_take]; rfl)) ?_; (with_reducible refine (wire_Read.calls kj8 _ _ (l0.drop (t102 : Int).toNat) 0 t111 t112 t113 t114 _ ?side1 ?side2 A30.out).mono ?_); (case side1 => repeat (first | exact (Kd.C_below HR110.out HB.out) | (with_reducible refine Kd.C_alloc ?_ _) | (with_reducible refine Kd.C_drewN ?_ _) | (with_reducible refine Kd.C_drew ?_))); (case side2 => exact HC110.out); rintro e w50 ⟨rfl, hb⟩; refine ⟨_, rfl, ?_⟩; have n0_ := Aside0.mk (blk_below (g := gb107) (o := .cells #[.int .i64 t105, .int .i64 t106] 31 (0, 0)) (by (with_reducible repeat (first | refine blk_drewN ?_ _ | refine blk_drew ?_ | refine blk_alloc ?_ _)); exact BK107.out) hb); have n1_ := Aside0.mk (below_step (by repeat (first | (with_reducible first | exact HB.out | apply below_alloc | apply pw_below_drewN | apply below_drew1 | refine below_set ?_ GE107.out) | exact HB.out)) hb); clear BK107; clear HB; have BK107 := n0_; have HB := n1_; clear n0_ n1_; (try clear hb); (try clear hb2); (try clear hk); (try clear hi)) | ((with_reducible refine gate_dst (N := 11) rfl ?_); (try (refine gate_guard (by rfl) ?_; dsimp only)); refine box_event ?hg (N := 11) ?hd (cs := #[.int .i64 0, .int .i64 0]) (t := 31) ?hr ?_; (case hd => rfl); (case hg => rfl); (case hr => first | (go_simp; done) | (go_simp; rfl)); intro gb115 hg w51 hbox hb; have n0_ := Aside0.mk (blk_below (g := gb107) (o := .cells #[.int .i64 t105, .int .i64 t106] 31 (0, 0)) (by (with_reducible repeat (first | refine blk_drewN ?_ _ | refine blk_drew ?_ | refine blk_alloc ?_ _)); exact BK107.out) hb); have n1_ := Aside0.mk (below_step (by repeat (first | (with_reducible first | exact HB.out | apply below_alloc | apply pw_below_drewN | apply below_drew1 | refine below_set ?_ GE107.out) | exact HB.out)) hb); have n2_ := Aside0.mk (hbox); have n3_ := Aside0.mk ((by rw [hg]; exact (below_size (by repeat (first | (with_reducible first | exact HB.out | apply below_alloc | apply pw_below_drewN | apply below_drew1 | refine below_set ?_ GE107.out) | exact HB.out))) : w.heap.size ≤ gb115)); have n4_ := Aside0.mk ((by rw [hg]; exact (below_size (by repeat (first | (with_reducible first | exact HB.out | apply below_alloc | apply pw_below_drewN | apply below_drew1 | refine below_set ?_ GE107.out) | exact HB.out))) : w.heap.size ≤ gb115)); have n5_ := Aside0.mk ((by rw [hg]; exact Nat.ne_of_lt (blk_lt (g := gb107) (o := .cells #[.int .i64 t105, .int .i64 t106] 31 (0, 0)) (by (with_reducible repeat (first | refine blk_drewN ?_ _ | refine blk_drew ?_ | refine blk_alloc ?_ _)); exact BK107.out)) : gb107 ≠ gb115)); have n6_ := Aside0.mk ((by rw [hg]; exact Nat.ne_of_gt (blk_lt (g := gb107) (o := .cells #[.int .i64 t105, .int .i64 t106] 31 (0, 0)) (by (with_reducible repeat (first | refine blk_drewN ?_ _ | refine blk_drew ?_ | refine blk_alloc ?_ _)); exact BK107.out)) : gb115 ≠ gb107)); clear BK107; clear HB; have BK107 := n0_; have HB := n1_; have BK115 := n2_; have GW115 := n3_; have GE115 := n4_; have NB107_115 := n5_; have NB115_107 := n6_; clear n0_ n1_ n2_ n3_ n4_ n5_ n6_; clear hb hbox hg; have hnb52 := NB115_107.out; have hnc52 := NB107_115.out; have hcz53_0 : w51.cell? ⟨gb115, 0, none⟩ = some (.int .i64 0) := (blk_cell BK115.out 0).trans rfl; have hcz53_1 : w51.cell? ⟨gb115, 1, none⟩ = some (.int .i64 0) := (blk_cell BK115.out 1).trans rfl; have hfz53_0 := blk_frozen BK115.out 0; have hfz53_1 := blk_frozen BK115.out 1))
                          go_ret
                          exact ⟨by first | rfl | (simp [errW_none, errW_some] <;> rfl) | (simp only [← hji23]; first | rfl | (simp [errW_none, errW_some] <;> rfl)) | (simp [*, errW_none, errW_some] <;> rfl), by repeat (first | (with_reducible first | exact HB.out | apply below_alloc | apply pw_below_drewN | apply below_drew1 | refine below_set ?_ GE107.out | refine below_set ?_ GE115.out) | exact HB.out)⟩
                      · rw [if_neg c29] at H
                        exact absurd H (by simp)
                    · rw [if_neg c28] at H
                      exact absurd H (by simp)
                  · rw [if_neg c27] at H
                    have c27b0 : ((wrap64 (t104 - t102)) == (t103.size : Int)) = false := beq_eq_false_iff_ne.mpr c27
                    have c27b1 : ((wrap64 (t104 - t102)) != (t103.size : Int)) = true := bne_iff_ne.mpr c27
                    obtain rfl := Option.some.inj H
                    have p109 : 0 ≤ ((ji23) : Int) := of_decide_eq_true (by first | (with_reducible assumption) | assumption)
                    have q109 : (ji23) < (l0.length : Int) := of_decide_eq_true (by first | (with_reducible assumption) | assumption)
                    obtain ⟨ad109, e109, hx109_0⟩ := Kd.at_int HR0.out (ji23) p109 q109
                    cases e109
                    replace hx109_0 := (HB.out.cell (World.block_lt_of_cell? w _ hx109_0)).trans hx109_0
                    replace p109 := eq_true p109
                    replace q109 := eq_true q109
                    go_wp2
                    go_ret
                    exact ⟨by first | rfl | (simp [errW_none, errW_some] <;> rfl) | (simp only [← hji23]; first | rfl | (simp [errW_none, errW_some] <;> rfl)) | (simp [*, errW_none, errW_some] <;> rfl), by repeat (first | (with_reducible first | exact HB.out | apply below_alloc | apply pw_below_drewN | apply below_drew1 | refine below_set ?_ GE107.out) | exact HB.out)⟩
                · rw [if_neg c26] at H
                  have c26b0 : ((rd l0 (ji23)) == 0) = false := beq_eq_false_iff_ne.mpr c26
                  have c26b1 : ((rd l0 (ji23)) != 0) = true := bne_iff_ne.mpr c26
                  obtain rfl := Option.some.inj H
                  have p109 : 0 ≤ ((ji23) : Int) := of_decide_eq_true (by first | (with_reducible assumption) | assumption)
                  have q109 : (ji23) < (l0.length : Int) := of_decide_eq_true (by first | (with_reducible assumption) | assumption)
                  obtain ⟨ad109, e109, hx109_0⟩ := Kd.at_int HR0.out (ji23) p109 q109
                  cases e109
                  replace hx109_0 := (HB.out.cell (World.block_lt_of_cell? w _ hx109_0)).trans hx109_0
                  replace p109 := eq_true p109
                  replace q109 := eq_true q109
                  go_wp2
                  go_ret
                  exact ⟨by first | rfl | (simp [errW_none, errW_some] <;> rfl) | (simp only [← hji23]; first | rfl | (simp [errW_none, errW_some] <;> rfl)) | (simp [*, errW_none, errW_some] <;> rfl), by repeat (first | (with_reducible first | exact HB.out | apply below_alloc | apply pw_below_drewN | apply below_drew1 | refine below_set ?_ GE107.out) | exact HB.out)⟩
              · rw [if_neg c25] at H
                exact absurd H (by simp)
            · rw [if_neg c24] at H
              exact absurd H (by simp)
    · rw [if_neg c8] at H
      have c8b0 : (t105 == 0) = false := beq_eq_false_iff_ne.mpr c8
      have c8b1 : (t105 != 0) = true := bne_iff_ne.mpr c8
      by_cases c54 : t101 = true
      · subst c54
        have H1 : (if t103.toList = ([] : List UInt8) then (if t104 = 0 then (if t106 ≥ 0 then (some (decide (t106 ≤ (l0.length : Int)))) else (some false)) else (some false)) else (some false)) = some r := by rw [if_pos rfl] at H; exact H
        clear H
        have H := H1
        clear H1
        by_cases c55 : t103.toList = ([] : List UInt8)
        · rw [if_pos c55] at H
          have c55b0 : (t103.toList == ([] : List UInt8)) = true := beq_iff_eq.mpr c55
          have c55b1 : (t103.toList != ([] : List UInt8)) = false := bne_eq_false_iff_eq.mpr c55
          clear c55
          by_cases c56 : t104 = 0
          · rw [if_pos c56] at H
            have c56b0 : (t104 == 0) = true := beq_iff_eq.mpr c56
            have c56b1 : (t104 != 0) = false := bne_eq_false_iff_eq.mpr c56
            clear c56
            by_cases c57 : t106 ≥ 0
            · rw [if_pos c57] at H
              have c57b0 : decide (0 ≤ t106) = true := decide_eq_true c57
              clear c57
              obtain rfl := Option.some.inj H
              go_enter Try.func9, Try.ntmps9
              go_wp2_with (first | ((with_reducible refine gate_callee (f := 47) rfl ?_); refine goesL_ (some 12) rfl rfl Try.func47 (by kernel_rfl) rfl #[] rfl (by (try simp only [List.map_toArray, List.map_cons, List.map_nil]); first | done | rfl | (simp only [List.length_drop, List.length_take]; rfl)) ?_; (with_reducible refine (ostiarylaw05_awake.calls k  true _ A3.out).mono ?_); rintro e w58 ⟨rfl, hb⟩; refine ⟨_, rfl, ?_⟩; have n0_ := Aside0.mk (below_step (by repeat (first | (with_reducible first | exact HB.out | apply below_alloc | apply pw_below_drewN | apply below_drew1) | exact HB.out)) hb); clear HB; have HB := n0_; clear n0_; (try clear hb); (try clear hb2); (try clear hk); (try clear hi)) | ((with_reducible refine gate_callee (f := 38) rfl ?_); refine goesL_ (some 21) rfl rfl Try.func38 (by kernel_rfl) rfl #[.int .i64 a1, .int .i64 (wrap64 ((l0.length : Int) + 1))] rfl (by (try simp only [List.map_toArray, List.map_cons, List.map_nil]); first | done | rfl | (simp only [List.length_drop, List.length_take]; rfl)) ?_; (with_reducible refine (ostiarykit_Pick.calls a1 (wrap64 ((l0.length : Int) + 1)) t102 _ A6.out).mono ?_); rintro e w' ⟨rfl, ⟨nd, rfl⟩⟩; refine ⟨_, rfl, ?_⟩; (try (rw [drewN_self w58]; generalize hq_ : World.drewN w58 _ = w58; have n0_ : Aside0 (Below w.heap.size w w58) := ⟨by rw [← hq_]; exact (by repeat (first | (with_reducible first | exact HB.out | apply below_alloc | apply pw_below_drewN | apply below_drew1) | exact HB.out))⟩; clear HB hq_; have HB := n0_; clear n0_))) | ((with_reducible refine gate_callee (f := 45) rfl ?_); refine goesL_ (some 25) rfl rfl Try.func45 (by kernel_rfl) rfl #[.slice A0 l0.length c0, .int .i64 t102] rfl (by (try simp only [List.map_toArray, List.map_cons, List.map_nil]); first | done | rfl | (simp only [List.length_drop, List.length_take]; rfl)) ?_; (with_reducible refine (wire_Read.calls k _ _ l0 t102 t103 t104 t105 t106 _ ?side1 ?side2 A7.out).mono ?_); (case side1 => repeat (first | exact (Kd.C_below HR0.out HB.out) | (with_reducible refine Kd.C_alloc ?_ _) | (with_reducible refine Kd.C_drewN ?_ _) | (with_reducible refine Kd.C_drew ?_))); (case side2 => exact HC0.out); rintro e w59 ⟨rfl, hb⟩; refine ⟨_, rfl, ?_⟩; have n0_ := Aside0.mk (below_step (by repeat (first | (with_reducible first | exact HB.out | apply below_alloc | apply pw_below_drewN | apply below_drew1) | exact HB.out)) hb); clear HB; have HB := n0_; clear n0_; (try clear hb); (try clear hb2); (try clear hk); (try clear hi)) | ((with_reducible refine gate_dst (N := 8) rfl ?_); (try (refine gate_guard (by rfl) ?_; dsimp only)); refine box_event ?hg (N := 8) ?hd (cs := #[.int .i64 0, .int .i64 0]) (t := 31) ?hr ?_; (case hd => rfl); (case hg => rfl); (case hr => first | (go_simp; done) | (go_simp; rfl)); intro gb107 hg w60 hbox hb; have n0_ := Aside0.mk (below_step (by repeat (first | (with_reducible first | exact HB.out | apply below_alloc | apply pw_below_drewN | apply below_drew1) | exact HB.out)) hb); have n1_ := Aside0.mk (hbox); have n2_ := Aside0.mk ((by rw [hg]; exact (below_size (by repeat (first | (with_reducible first | exact HB.out | apply below_alloc | apply pw_below_drewN | apply below_drew1) | exact HB.out))) : w.heap.size ≤ gb107)); have n3_ := Aside0.mk ((by rw [hg]; exact (below_size (by repeat (first | (with_reducible first | exact HB.out | apply below_alloc | apply pw_below_drewN | apply below_drew1) | exact HB.out))) : w.heap.size ≤ gb107)); clear HB; have HB := n0_; have BK107 := n1_; have GW107 := n2_; have GE107 := n3_; clear n0_ n1_ n2_ n3_; clear hb hbox hg; have hcz61_0 : w60.cell? ⟨gb107, 0, none⟩ = some (.int .i64 0) := (blk_cell BK107.out 0).trans rfl; have hcz61_1 : w60.cell? ⟨gb107, 1, none⟩ = some (.int .i64 0) := (blk_cell BK107.out 1).trans rfl; have hfz61_0 := blk_frozen BK107.out 0; have hfz61_1 := blk_frozen BK107.out 1))
              go_ret
              exact ⟨by first | rfl | (simp [errW_none, errW_some] <;> rfl) | (simp [*, errW_none, errW_some] <;> rfl), by repeat (first | (with_reducible first | exact HB.out | apply below_alloc | apply pw_below_drewN | apply below_drew1 | refine below_set ?_ GE107.out) | exact HB.out)⟩
            · rw [if_neg c57] at H
              have c57b0 : decide (0 ≤ t106) = false := decide_eq_false c57
              clear c57
              obtain rfl := Option.some.inj H
              go_enter Try.func9, Try.ntmps9
              go_wp2_with (first | ((with_reducible refine gate_callee (f := 47) rfl ?_); refine goesL_ (some 12) rfl rfl Try.func47 (by kernel_rfl) rfl #[] rfl (by (try simp only [List.map_toArray, List.map_cons, List.map_nil]); first | done | rfl | (simp only [List.length_drop, List.length_take]; rfl)) ?_; (with_reducible refine (ostiarylaw05_awake.calls k  true _ A3.out).mono ?_); rintro e w62 ⟨rfl, hb⟩; refine ⟨_, rfl, ?_⟩; have n0_ := Aside0.mk (below_step (by repeat (first | (with_reducible first | exact HB.out | apply below_alloc | apply pw_below_drewN | apply below_drew1) | exact HB.out)) hb); clear HB; have HB := n0_; clear n0_; (try clear hb); (try clear hb2); (try clear hk); (try clear hi)) | ((with_reducible refine gate_callee (f := 38) rfl ?_); refine goesL_ (some 21) rfl rfl Try.func38 (by kernel_rfl) rfl #[.int .i64 a1, .int .i64 (wrap64 ((l0.length : Int) + 1))] rfl (by (try simp only [List.map_toArray, List.map_cons, List.map_nil]); first | done | rfl | (simp only [List.length_drop, List.length_take]; rfl)) ?_; (with_reducible refine (ostiarykit_Pick.calls a1 (wrap64 ((l0.length : Int) + 1)) t102 _ A6.out).mono ?_); rintro e w' ⟨rfl, ⟨nd, rfl⟩⟩; refine ⟨_, rfl, ?_⟩; (try (rw [drewN_self w62]; generalize hq_ : World.drewN w62 _ = w62; have n0_ : Aside0 (Below w.heap.size w w62) := ⟨by rw [← hq_]; exact (by repeat (first | (with_reducible first | exact HB.out | apply below_alloc | apply pw_below_drewN | apply below_drew1) | exact HB.out))⟩; clear HB hq_; have HB := n0_; clear n0_))) | ((with_reducible refine gate_callee (f := 45) rfl ?_); refine goesL_ (some 25) rfl rfl Try.func45 (by kernel_rfl) rfl #[.slice A0 l0.length c0, .int .i64 t102] rfl (by (try simp only [List.map_toArray, List.map_cons, List.map_nil]); first | done | rfl | (simp only [List.length_drop, List.length_take]; rfl)) ?_; (with_reducible refine (wire_Read.calls k _ _ l0 t102 t103 t104 t105 t106 _ ?side1 ?side2 A7.out).mono ?_); (case side1 => repeat (first | exact (Kd.C_below HR0.out HB.out) | (with_reducible refine Kd.C_alloc ?_ _) | (with_reducible refine Kd.C_drewN ?_ _) | (with_reducible refine Kd.C_drew ?_))); (case side2 => exact HC0.out); rintro e w63 ⟨rfl, hb⟩; refine ⟨_, rfl, ?_⟩; have n0_ := Aside0.mk (below_step (by repeat (first | (with_reducible first | exact HB.out | apply below_alloc | apply pw_below_drewN | apply below_drew1) | exact HB.out)) hb); clear HB; have HB := n0_; clear n0_; (try clear hb); (try clear hb2); (try clear hk); (try clear hi)) | ((with_reducible refine gate_dst (N := 8) rfl ?_); (try (refine gate_guard (by rfl) ?_; dsimp only)); refine box_event ?hg (N := 8) ?hd (cs := #[.int .i64 0, .int .i64 0]) (t := 31) ?hr ?_; (case hd => rfl); (case hg => rfl); (case hr => first | (go_simp; done) | (go_simp; rfl)); intro gb107 hg w64 hbox hb; have n0_ := Aside0.mk (below_step (by repeat (first | (with_reducible first | exact HB.out | apply below_alloc | apply pw_below_drewN | apply below_drew1) | exact HB.out)) hb); have n1_ := Aside0.mk (hbox); have n2_ := Aside0.mk ((by rw [hg]; exact (below_size (by repeat (first | (with_reducible first | exact HB.out | apply below_alloc | apply pw_below_drewN | apply below_drew1) | exact HB.out))) : w.heap.size ≤ gb107)); have n3_ := Aside0.mk ((by rw [hg]; exact (below_size (by repeat (first | (with_reducible first | exact HB.out | apply below_alloc | apply pw_below_drewN | apply below_drew1) | exact HB.out))) : w.heap.size ≤ gb107)); clear HB; have HB := n0_; have BK107 := n1_; have GW107 := n2_; have GE107 := n3_; clear n0_ n1_ n2_ n3_; clear hb hbox hg; have hcz65_0 : w64.cell? ⟨gb107, 0, none⟩ = some (.int .i64 0) := (blk_cell BK107.out 0).trans rfl; have hcz65_1 : w64.cell? ⟨gb107, 1, none⟩ = some (.int .i64 0) := (blk_cell BK107.out 1).trans rfl; have hfz65_0 := blk_frozen BK107.out 0; have hfz65_1 := blk_frozen BK107.out 1))
              go_ret
              exact ⟨by first | rfl | (simp [errW_none, errW_some] <;> rfl) | (simp [*, errW_none, errW_some] <;> rfl), by repeat (first | (with_reducible first | exact HB.out | apply below_alloc | apply pw_below_drewN | apply below_drew1 | refine below_set ?_ GE107.out) | exact HB.out)⟩
          · rw [if_neg c56] at H
            have c56b0 : (t104 == 0) = false := beq_eq_false_iff_ne.mpr c56
            have c56b1 : (t104 != 0) = true := bne_iff_ne.mpr c56
            obtain rfl := Option.some.inj H
            go_enter Try.func9, Try.ntmps9
            go_wp2_with (first | ((with_reducible refine gate_callee (f := 47) rfl ?_); refine goesL_ (some 12) rfl rfl Try.func47 (by kernel_rfl) rfl #[] rfl (by (try simp only [List.map_toArray, List.map_cons, List.map_nil]); first | done | rfl | (simp only [List.length_drop, List.length_take]; rfl)) ?_; (with_reducible refine (ostiarylaw05_awake.calls k  true _ A3.out).mono ?_); rintro e w66 ⟨rfl, hb⟩; refine ⟨_, rfl, ?_⟩; have n0_ := Aside0.mk (below_step (by repeat (first | (with_reducible first | exact HB.out | apply below_alloc | apply pw_below_drewN | apply below_drew1) | exact HB.out)) hb); clear HB; have HB := n0_; clear n0_; (try clear hb); (try clear hb2); (try clear hk); (try clear hi)) | ((with_reducible refine gate_callee (f := 38) rfl ?_); refine goesL_ (some 21) rfl rfl Try.func38 (by kernel_rfl) rfl #[.int .i64 a1, .int .i64 (wrap64 ((l0.length : Int) + 1))] rfl (by (try simp only [List.map_toArray, List.map_cons, List.map_nil]); first | done | rfl | (simp only [List.length_drop, List.length_take]; rfl)) ?_; (with_reducible refine (ostiarykit_Pick.calls a1 (wrap64 ((l0.length : Int) + 1)) t102 _ A6.out).mono ?_); rintro e w' ⟨rfl, ⟨nd, rfl⟩⟩; refine ⟨_, rfl, ?_⟩; (try (rw [drewN_self w66]; generalize hq_ : World.drewN w66 _ = w66; have n0_ : Aside0 (Below w.heap.size w w66) := ⟨by rw [← hq_]; exact (by repeat (first | (with_reducible first | exact HB.out | apply below_alloc | apply pw_below_drewN | apply below_drew1) | exact HB.out))⟩; clear HB hq_; have HB := n0_; clear n0_))) | ((with_reducible refine gate_callee (f := 45) rfl ?_); refine goesL_ (some 25) rfl rfl Try.func45 (by kernel_rfl) rfl #[.slice A0 l0.length c0, .int .i64 t102] rfl (by (try simp only [List.map_toArray, List.map_cons, List.map_nil]); first | done | rfl | (simp only [List.length_drop, List.length_take]; rfl)) ?_; (with_reducible refine (wire_Read.calls k _ _ l0 t102 t103 t104 t105 t106 _ ?side1 ?side2 A7.out).mono ?_); (case side1 => repeat (first | exact (Kd.C_below HR0.out HB.out) | (with_reducible refine Kd.C_alloc ?_ _) | (with_reducible refine Kd.C_drewN ?_ _) | (with_reducible refine Kd.C_drew ?_))); (case side2 => exact HC0.out); rintro e w67 ⟨rfl, hb⟩; refine ⟨_, rfl, ?_⟩; have n0_ := Aside0.mk (below_step (by repeat (first | (with_reducible first | exact HB.out | apply below_alloc | apply pw_below_drewN | apply below_drew1) | exact HB.out)) hb); clear HB; have HB := n0_; clear n0_; (try clear hb); (try clear hb2); (try clear hk); (try clear hi)) | ((with_reducible refine gate_dst (N := 8) rfl ?_); (try (refine gate_guard (by rfl) ?_; dsimp only)); refine box_event ?hg (N := 8) ?hd (cs := #[.int .i64 0, .int .i64 0]) (t := 31) ?hr ?_; (case hd => rfl); (case hg => rfl); (case hr => first | (go_simp; done) | (go_simp; rfl)); intro gb107 hg w68 hbox hb; have n0_ := Aside0.mk (below_step (by repeat (first | (with_reducible first | exact HB.out | apply below_alloc | apply pw_below_drewN | apply below_drew1) | exact HB.out)) hb); have n1_ := Aside0.mk (hbox); have n2_ := Aside0.mk ((by rw [hg]; exact (below_size (by repeat (first | (with_reducible first | exact HB.out | apply below_alloc | apply pw_below_drewN | apply below_drew1) | exact HB.out))) : w.heap.size ≤ gb107)); have n3_ := Aside0.mk ((by rw [hg]; exact (below_size (by repeat (first | (with_reducible first | exact HB.out | apply below_alloc | apply pw_below_drewN | apply below_drew1) | exact HB.out))) : w.heap.size ≤ gb107)); clear HB; have HB := n0_; have BK107 := n1_; have GW107 := n2_; have GE107 := n3_; clear n0_ n1_ n2_ n3_; clear hb hbox hg; have hcz69_0 : w68.cell? ⟨gb107, 0, none⟩ = some (.int .i64 0) := (blk_cell BK107.out 0).trans rfl; have hcz69_1 : w68.cell? ⟨gb107, 1, none⟩ = some (.int .i64 0) := (blk_cell BK107.out 1).trans rfl; have hfz69_0 := blk_frozen BK107.out 0; have hfz69_1 := blk_frozen BK107.out 1))
            go_ret
            exact ⟨by first | rfl | (simp [errW_none, errW_some] <;> rfl) | (simp [*, errW_none, errW_some] <;> rfl), by repeat (first | (with_reducible first | exact HB.out | apply below_alloc | apply pw_below_drewN | apply below_drew1 | refine below_set ?_ GE107.out) | exact HB.out)⟩
        · rw [if_neg c55] at H
          have c55b0 : (t103.toList == ([] : List UInt8)) = false := beq_eq_false_iff_ne.mpr c55
          have c55b1 : (t103.toList != ([] : List UInt8)) = true := bne_iff_ne.mpr c55
          obtain rfl := Option.some.inj H
          go_enter Try.func9, Try.ntmps9
          go_wp2_with (first | ((with_reducible refine gate_callee (f := 47) rfl ?_); refine goesL_ (some 12) rfl rfl Try.func47 (by kernel_rfl) rfl #[] rfl (by (try simp only [List.map_toArray, List.map_cons, List.map_nil]); first | done | rfl | (simp only [List.length_drop, List.length_take]; rfl)) ?_; (with_reducible refine (ostiarylaw05_awake.calls k  true _ A3.out).mono ?_); rintro e w70 ⟨rfl, hb⟩; refine ⟨_, rfl, ?_⟩; have n0_ := Aside0.mk (below_step (by repeat (first | (with_reducible first | exact HB.out | apply below_alloc | apply pw_below_drewN | apply below_drew1) | exact HB.out)) hb); clear HB; have HB := n0_; clear n0_; (try clear hb); (try clear hb2); (try clear hk); (try clear hi)) | ((with_reducible refine gate_callee (f := 38) rfl ?_); refine goesL_ (some 21) rfl rfl Try.func38 (by kernel_rfl) rfl #[.int .i64 a1, .int .i64 (wrap64 ((l0.length : Int) + 1))] rfl (by (try simp only [List.map_toArray, List.map_cons, List.map_nil]); first | done | rfl | (simp only [List.length_drop, List.length_take]; rfl)) ?_; (with_reducible refine (ostiarykit_Pick.calls a1 (wrap64 ((l0.length : Int) + 1)) t102 _ A6.out).mono ?_); rintro e w' ⟨rfl, ⟨nd, rfl⟩⟩; refine ⟨_, rfl, ?_⟩; (try (rw [drewN_self w70]; generalize hq_ : World.drewN w70 _ = w70; have n0_ : Aside0 (Below w.heap.size w w70) := ⟨by rw [← hq_]; exact (by repeat (first | (with_reducible first | exact HB.out | apply below_alloc | apply pw_below_drewN | apply below_drew1) | exact HB.out))⟩; clear HB hq_; have HB := n0_; clear n0_))) | ((with_reducible refine gate_callee (f := 45) rfl ?_); refine goesL_ (some 25) rfl rfl Try.func45 (by kernel_rfl) rfl #[.slice A0 l0.length c0, .int .i64 t102] rfl (by (try simp only [List.map_toArray, List.map_cons, List.map_nil]); first | done | rfl | (simp only [List.length_drop, List.length_take]; rfl)) ?_; (with_reducible refine (wire_Read.calls k _ _ l0 t102 t103 t104 t105 t106 _ ?side1 ?side2 A7.out).mono ?_); (case side1 => repeat (first | exact (Kd.C_below HR0.out HB.out) | (with_reducible refine Kd.C_alloc ?_ _) | (with_reducible refine Kd.C_drewN ?_ _) | (with_reducible refine Kd.C_drew ?_))); (case side2 => exact HC0.out); rintro e w71 ⟨rfl, hb⟩; refine ⟨_, rfl, ?_⟩; have n0_ := Aside0.mk (below_step (by repeat (first | (with_reducible first | exact HB.out | apply below_alloc | apply pw_below_drewN | apply below_drew1) | exact HB.out)) hb); clear HB; have HB := n0_; clear n0_; (try clear hb); (try clear hb2); (try clear hk); (try clear hi)) | ((with_reducible refine gate_dst (N := 8) rfl ?_); (try (refine gate_guard (by rfl) ?_; dsimp only)); refine box_event ?hg (N := 8) ?hd (cs := #[.int .i64 0, .int .i64 0]) (t := 31) ?hr ?_; (case hd => rfl); (case hg => rfl); (case hr => first | (go_simp; done) | (go_simp; rfl)); intro gb107 hg w72 hbox hb; have n0_ := Aside0.mk (below_step (by repeat (first | (with_reducible first | exact HB.out | apply below_alloc | apply pw_below_drewN | apply below_drew1) | exact HB.out)) hb); have n1_ := Aside0.mk (hbox); have n2_ := Aside0.mk ((by rw [hg]; exact (below_size (by repeat (first | (with_reducible first | exact HB.out | apply below_alloc | apply pw_below_drewN | apply below_drew1) | exact HB.out))) : w.heap.size ≤ gb107)); have n3_ := Aside0.mk ((by rw [hg]; exact (below_size (by repeat (first | (with_reducible first | exact HB.out | apply below_alloc | apply pw_below_drewN | apply below_drew1) | exact HB.out))) : w.heap.size ≤ gb107)); clear HB; have HB := n0_; have BK107 := n1_; have GW107 := n2_; have GE107 := n3_; clear n0_ n1_ n2_ n3_; clear hb hbox hg; have hcz73_0 : w72.cell? ⟨gb107, 0, none⟩ = some (.int .i64 0) := (blk_cell BK107.out 0).trans rfl; have hcz73_1 : w72.cell? ⟨gb107, 1, none⟩ = some (.int .i64 0) := (blk_cell BK107.out 1).trans rfl; have hfz73_0 := blk_frozen BK107.out 0; have hfz73_1 := blk_frozen BK107.out 1))
          go_ret
          exact ⟨by first | rfl | (simp [errW_none, errW_some] <;> rfl) | (simp [*, errW_none, errW_some] <;> rfl), by repeat (first | (with_reducible first | exact HB.out | apply below_alloc | apply pw_below_drewN | apply below_drew1 | refine below_set ?_ GE107.out) | exact HB.out)⟩
      · replace c54 := Bool.eq_false_iff.mpr c54
        subst c54
        have H1 : (some false) = some r := by rw [if_neg (show ¬ (false = true) by decide)] at H; exact H
        clear H
        have H := H1
        clear H1
        obtain rfl := Option.some.inj H
        go_enter Try.func9, Try.ntmps9
        go_wp2_with (first | ((with_reducible refine gate_callee (f := 47) rfl ?_); refine goesL_ (some 12) rfl rfl Try.func47 (by kernel_rfl) rfl #[] rfl (by (try simp only [List.map_toArray, List.map_cons, List.map_nil]); first | done | rfl | (simp only [List.length_drop, List.length_take]; rfl)) ?_; (with_reducible refine (ostiarylaw05_awake.calls k  false _ A3.out).mono ?_); rintro e w74 ⟨rfl, hb⟩; refine ⟨_, rfl, ?_⟩; have n0_ := Aside0.mk (below_step (by repeat (first | (with_reducible first | exact HB.out | apply below_alloc | apply pw_below_drewN | apply below_drew1) | exact HB.out)) hb); clear HB; have HB := n0_; clear n0_; (try clear hb); (try clear hb2); (try clear hk); (try clear hi)) | ((with_reducible refine gate_callee (f := 38) rfl ?_); refine goesL_ (some 21) rfl rfl Try.func38 (by kernel_rfl) rfl #[.int .i64 a1, .int .i64 (wrap64 ((l0.length : Int) + 1))] rfl (by (try simp only [List.map_toArray, List.map_cons, List.map_nil]); first | done | rfl | (simp only [List.length_drop, List.length_take]; rfl)) ?_; (with_reducible refine (ostiarykit_Pick.calls a1 (wrap64 ((l0.length : Int) + 1)) t102 _ A6.out).mono ?_); rintro e w' ⟨rfl, ⟨nd, rfl⟩⟩; refine ⟨_, rfl, ?_⟩; (try (rw [drewN_self w74]; generalize hq_ : World.drewN w74 _ = w74; have n0_ : Aside0 (Below w.heap.size w w74) := ⟨by rw [← hq_]; exact (by repeat (first | (with_reducible first | exact HB.out | apply below_alloc | apply pw_below_drewN | apply below_drew1) | exact HB.out))⟩; clear HB hq_; have HB := n0_; clear n0_))) | ((with_reducible refine gate_callee (f := 45) rfl ?_); refine goesL_ (some 25) rfl rfl Try.func45 (by kernel_rfl) rfl #[.slice A0 l0.length c0, .int .i64 t102] rfl (by (try simp only [List.map_toArray, List.map_cons, List.map_nil]); first | done | rfl | (simp only [List.length_drop, List.length_take]; rfl)) ?_; (with_reducible refine (wire_Read.calls k _ _ l0 t102 t103 t104 t105 t106 _ ?side1 ?side2 A7.out).mono ?_); (case side1 => repeat (first | exact (Kd.C_below HR0.out HB.out) | (with_reducible refine Kd.C_alloc ?_ _) | (with_reducible refine Kd.C_drewN ?_ _) | (with_reducible refine Kd.C_drew ?_))); (case side2 => exact HC0.out); rintro e w75 ⟨rfl, hb⟩; refine ⟨_, rfl, ?_⟩; have n0_ := Aside0.mk (below_step (by repeat (first | (with_reducible first | exact HB.out | apply below_alloc | apply pw_below_drewN | apply below_drew1) | exact HB.out)) hb); clear HB; have HB := n0_; clear n0_; (try clear hb); (try clear hb2); (try clear hk); (try clear hi)) | ((with_reducible refine gate_dst (N := 8) rfl ?_); (try (refine gate_guard (by rfl) ?_; dsimp only)); refine box_event ?hg (N := 8) ?hd (cs := #[.int .i64 0, .int .i64 0]) (t := 31) ?hr ?_; (case hd => rfl); (case hg => rfl); (case hr => first | (go_simp; done) | (go_simp; rfl)); intro gb107 hg w76 hbox hb; have n0_ := Aside0.mk (below_step (by repeat (first | (with_reducible first | exact HB.out | apply below_alloc | apply pw_below_drewN | apply below_drew1) | exact HB.out)) hb); have n1_ := Aside0.mk (hbox); have n2_ := Aside0.mk ((by rw [hg]; exact (below_size (by repeat (first | (with_reducible first | exact HB.out | apply below_alloc | apply pw_below_drewN | apply below_drew1) | exact HB.out))) : w.heap.size ≤ gb107)); have n3_ := Aside0.mk ((by rw [hg]; exact (below_size (by repeat (first | (with_reducible first | exact HB.out | apply below_alloc | apply pw_below_drewN | apply below_drew1) | exact HB.out))) : w.heap.size ≤ gb107)); clear HB; have HB := n0_; have BK107 := n1_; have GW107 := n2_; have GE107 := n3_; clear n0_ n1_ n2_ n3_; clear hb hbox hg; have hcz77_0 : w76.cell? ⟨gb107, 0, none⟩ = some (.int .i64 0) := (blk_cell BK107.out 0).trans rfl; have hcz77_1 : w76.cell? ⟨gb107, 1, none⟩ = some (.int .i64 0) := (blk_cell BK107.out 1).trans rfl; have hfz77_0 := blk_frozen BK107.out 0; have hfz77_1 := blk_frozen BK107.out 1))
        go_ret
        exact ⟨by first | rfl | (simp [errW_none, errW_some] <;> rfl) | (simp [*, errW_none, errW_some] <;> rfl), by repeat (first | (with_reducible first | exact HB.out | apply below_alloc | apply pw_below_drewN | apply below_drew1 | refine below_set ?_ GE107.out) | exact HB.out)⟩

/-- THE ONE PURE STATEMENT of ostiarylaw05_WireEnds: yours. -/
def ostiarylaw05_WireEnds.Pure : Prop := ∀ (l0 : List Int) (a1 : Int), l0.length ≤ maxLen → l0.length * 1 ≤ 140737488351232 → (∀ x ∈ l0, (Lit.int .u8 x).wf = true) → (Lit.int .i64 a1).wf = true → ∃ k, ostiarylaw05_WireEnds.f k l0 a1 = some true
theorem ostiarylaw05_WireEnds.walk (P : ostiarylaw05_WireEnds.Pure) (a0 : Option Addr) (len0 cap0 : Nat) (z0 : List Int) (a1 : Int) (w : World) (w0 : (a0 = none ∧ len0 = 0 ∧ cap0 = 0 ∧ z0 = []) ∨ ∃ x, a0 = some x ∧ len0 ≤ cap0 ∧ cap0 ≤ maxLen ∧ z0.length = cap0 ∧ (∀ i, i < z0.length → w.cell? (x.add i) = some (.int .u8 (z0.getD i 0))) ∧ ∀ n ∈ z0, (Lit.int .u8 n).wf = true) (y0 : len0 * 1 ≤ 140737488351232) (w1 : (Lit.int .i64 a1).wf = true) :
    Calls Try.prog 9 #[.slice a0 len0 cap0, .int .i64 a1] w fun e w' => e = .returned (.bool true) ∧ Below w.heap.size w w' := by
  obtain ⟨l0, rfl, hr0, hm0, hw0, hc0⟩ := ReadsInt.ofRowC w0
  obtain ⟨k, h⟩ := P l0 a1 hm0 y0 hw0 w1
  refine (ostiarylaw05_WireEnds.calls k _ _ l0 a1 true w (Kd.C_of_reads (d := (0 : Int)) (h1 := fun _ => rfl) hr0) hc0 h).mono ?_
  rintro e w' ⟨rfl, hd⟩
  exact ⟨rfl, hd⟩

end Go.Proofs.Ytjjbhpbmfpodeaa.X
end
section
namespace Go.Proofs.Ytjjbhpbmfpodeaa.PB
open Go.RowKit Go.Proofs.Ytjjbhpbmfpodeaa.X Go.Proofs.YtjjbhpbmfpodeaaW.PrintWords Go.Proofs.YtjjbhpbmfpodeaaW.PrintLast
set_option linter.unusedVariables false
set_option linter.unusedSimpArgs false

/-- What the loop of wire.Read tells from (out, i, behind) on. -/
def RdQ (l : List Int) (at_ : Int) (M : Nat) (out : List Int) (i behind : Int) (r : ByteArray × Int × Int × Int) : Prop :=
  (r.2.2.1 ≠ 0 ∧ r.1 = ⟨#[]⟩ ∧ r.2.1 = 0 ∧ 0 ≤ r.2.2.2 ∧ r.2.2.2 ≤ l.length) ∨
  (∃ (ls : List Int) (nx : Int), Lab ls ∧ bytesB ls = true ∧ out.length + ls.length ≤ 254 ∧ r = (strOfNums (out ++ ls ++ [0]), nx, 0, 0) ∧ (0 ≤ behind → nx = behind) ∧
    (behind < 0 → i < nx ∧ nx ≤ l.length ∧ nx ≤ i + ls.length + 2 ∧
      ((nx = i + ls.length + 1 ∧ ∀ (k : Nat) (a0 p2 : Int) (a : Nat), M < k → (a : Int) ≤ i → wire_Read.l0 k (l.drop a) a0 out p2 (i - a) (-1) = some (strOfNums (out ++ ls ++ [0]), nx - a, 0, 0)) ∨
       (∃ j : Nat, j ≤ ls.length ∧ nx = i + j + 2 ∧ ls.length - j ≠ 1))))

theorem rd_drop (l : List Int) (a : Nat) (i : Int) (h : (a : Int) ≤ i) : rd (l.drop a) (i - a) = rd l i := by
  unfold rd
  rw [List.getD_eq_getElem?_getD, List.getD_eq_getElem?_getD, List.getElem?_drop]
  congr 2; omega
theorem take_head (l : List Int) (i : Int) (h0 : 0 ≤ i) (h : i < l.length) (n : Nat) : (l.drop i.toNat).take (n + 1) = rd l i :: ((l.drop i.toNat).drop 1).take n := by
  have hi : i.toNat < l.length := by omega
  rw [List.drop_eq_getElem_cons hi, List.take_succ_cons, List.drop_succ_cons, List.drop_zero]
  unfold rd
  rw [List.getD_eq_getElem?_getD, List.getElem?_eq_getElem hi]; rfl

theorem take_two (l : List Int) (i : Int) (h0 : 0 ≤ i) (h : i + 1 < l.length) : (l.drop i.toNat).take (2 : Int).toNat = [rd l i, rd l (i + 1)] := by
  rw [show (2 : Int).toNat = 1 + 1 from rfl, take_head l i h0 (by omega), List.drop_drop, show i.toNat + 1 = (i + 1).toNat by omega, take_head l (i + 1) (by omega) h]
  rfl

theorem rd_loop {l : List Int} (hb : bytesB l = true) (hl : l.length ≤ 140737488351232) {at_ : Int} (ha0 : 0 ≤ at_) (ha1 : at_ ≤ l.length) : ∀ (M : Nat) (out : List Int) (part i behind : Int),
    bytesB out = true → out.length ≤ 254 → 0 ≤ i → i ≤ l.length → 0 ≤ part → part ≤ l.length → part.toNat + (256 - out.length) ≤ M →
    ∃ r, (∀ k, M < k → wire_Read.l0 k l at_ out part i behind = some r) ∧ RdQ l at_ M out i behind r := by
  intro M
  induction M with
  | zero => intro out part i behind _ _ _ _ _ _ _; omega
  | succ M ih =>
    intro out part i behind hob hol h0 h1 hp0 hp1 hM
    by_cases hend : i = l.length
    · refine ⟨(⟨#[]⟩, 0, 4, (l.length : Int)), fun k hk => ?_, .inl ⟨by simp, rfl, rfl, by show 0 ≤ (l.length : Int); omega, by show (l.length : Int) ≤ l.length; omega⟩⟩
      obtain ⟨k, rfl⟩ : ∃ m, k = m + 1 := ⟨k - 1, by omega⟩
      rw [wire_Read.l0, if_pos (by omega)]
    have hrb := rd_byte hb i
    have hw : wrap64 (rd l i) = rd l i := w64 (by omega) (by omega)
    by_cases hz : rd l i = 0
    · by_cases hbe : behind < 0
      · refine ⟨(strOfNums (out ++ [0]), i + 1, 0, 0), fun k hk => ?_, .inr ⟨[], i + 1, .nil, rfl, by simpa using hol, by simp, by omega, fun _ => ⟨by omega, by omega, by simp only [List.length_nil]; omega, .inl ⟨by simp, ?_⟩⟩⟩⟩
        · obtain ⟨k, rfl⟩ : ∃ m, k = m + 1 := ⟨k - 1, by omega⟩
          rw [wire_Read.l0, if_neg (by omega), if_pos h0, if_pos (by omega), hw, if_pos hz, if_pos hbe, if_pos (by omega), w64 (by omega) (by omega)]
        · intro k a0 p2 a hk ha
          obtain ⟨k, rfl⟩ : ∃ m, k = m + 1 := ⟨k - 1, by omega⟩
          rw [wire_Read.l0, if_neg (by simp; omega), if_pos (by omega), if_pos (by simp; omega), rd_drop l a i ha, hw, if_pos hz, if_pos (by decide), if_pos (by omega), w64 (by omega) (by omega)]
          simp
          omega
      · refine ⟨(strOfNums (out ++ [0]), behind, 0, 0), fun k hk => ?_, .inr ⟨[], behind, .nil, rfl, by simpa using hol, by simp, fun _ => rfl, fun h => absurd h hbe⟩⟩
        obtain ⟨k, rfl⟩ : ∃ m, k = m + 1 := ⟨k - 1, by omega⟩
        rw [wire_Read.l0, if_neg (by omega), if_pos h0, if_pos (by omega), hw, if_pos hz, if_neg hbe, if_pos (by omega)]
    by_cases hptr : rd l i ≥ 192
    · by_cases hsh : (l.length : Int) < i + 2
      · refine ⟨(⟨#[]⟩, 0, 4, (l.length : Int)), fun k hk => ?_, .inl ⟨by simp, rfl, rfl, by show 0 ≤ (l.length : Int); omega, by show (l.length : Int) ≤ l.length; omega⟩⟩
        obtain ⟨k, rfl⟩ : ∃ m, k = m + 1 := ⟨k - 1, by omega⟩
        rw [wire_Read.l0, if_neg (by omega), if_pos h0, if_pos (by omega), hw, if_neg hz, if_pos hptr, get16_of (get_short hb (.inl rfl) (by omega) h0 h1 hsh)]
        rfl
      have hg := get16_of (get_ok (a := i) (s := 2) hb (.inl rfl) (by omega) h0 (by omega))
      obtain ⟨n, hn⟩ : ∃ n, n = beVal ((l.drop i.toNat).take (2 : Int).toNat) := ⟨_, rfl⟩
      rw [← hn] at hg
      have hnr : 0 ≤ n ∧ n < 65536 := by
        rw [hn, take_two l i h0 (by omega)]
        have r1 := rd_byte hb i
        have r2 := rd_byte hb (i + 1)
        simp only [beVal, List.foldl_cons, List.foldl_nil]
        omega
      have hand := and14 hnr.1 (by omega : n < 9223372036854775808)
      by_cases hloop : n % 16384 ≥ part
      · refine ⟨(⟨#[]⟩, 0, 150, i), fun k hk => ?_, .inl ⟨by simp, rfl, rfl, by show 0 ≤ i; omega, by show i ≤ l.length; omega⟩⟩
        obtain ⟨k, rfl⟩ : ∃ m, k = m + 1 := ⟨k - 1, by omega⟩
        rw [wire_Read.l0, if_neg (by omega), if_pos h0, if_pos (by omega), hw, if_neg hz, if_pos hptr, hg]
        simp only [Option.bind_some]
        rw [if_pos trivial, hand, if_pos hloop]
      obtain ⟨r, hr, hq⟩ := ih out (n % 16384) (n % 16384) (if behind < 0 then i + 2 else behind) hob hol (by omega) (by omega) (by omega) (by omega) (by omega)
      refine ⟨r, fun k hk => ?_, ?_⟩
      · obtain ⟨k, rfl⟩ : ∃ m, k = m + 1 := ⟨k - 1, by omega⟩
        rw [wire_Read.l0, if_neg (by omega), if_pos h0, if_pos (by omega), hw, if_neg hz, if_pos hptr, hg]
        simp only [Option.bind_some]
        rw [if_pos trivial, hand, if_neg hloop]
        have := hr k (by omega)
        by_cases hbe : behind < 0
        · rw [if_pos hbe] at this ⊢; exact this
        · rw [if_neg hbe] at this ⊢; exact this
      · rcases hq with hq | ⟨ls, nx, q1, q2, q3, q4, q5, q6⟩
        · exact .inl hq
        · refine .inr ⟨ls, nx, q1, q2, q3, q4, fun hbe => ?_, fun hbe => ?_⟩
          · rw [if_neg (by omega)] at q5; exact q5 hbe
          · rw [if_pos hbe] at q5
            have e := q5 (by omega)
            exact ⟨by omega, by omega, by omega, .inr ⟨0, by omega, by omega, by have := q1.ne_one; omega⟩⟩
    by_cases h63 : rd l i > 63
    · refine ⟨(⟨#[]⟩, 0, 4, i), fun k hk => ?_, .inl ⟨by simp, rfl, rfl, by show 0 ≤ i; omega, by show i ≤ l.length; omega⟩⟩
      obtain ⟨k, rfl⟩ : ∃ m, k = m + 1 := ⟨k - 1, by omega⟩
      rw [wire_Read.l0, if_neg (by omega), if_pos h0, if_pos (by omega), hw, if_neg hz, if_neg hptr, if_pos h63]
    have hw2 : wrap64 (rd l i + 1) = rd l i + 1 := w64 (by omega) (by omega)
    by_cases hsh : (l.length : Int) < i + (rd l i + 1)
    · refine ⟨(⟨#[]⟩, 0, 4, (l.length : Int)), fun k hk => ?_, .inl ⟨by simp, rfl, rfl, by show 0 ≤ (l.length : Int); omega, by show (l.length : Int) ≤ l.length; omega⟩⟩
      obtain ⟨k, rfl⟩ : ∃ m, k = m + 2 := ⟨k - 2, by omega⟩
      rw [wire_Read.l0, if_neg (by omega), if_pos h0, if_pos (by omega), hw, if_neg hz, if_neg hptr, if_neg h63, hw2, bytes_short hl h0 h1 (by omega) hsh]
      rfl
    have hbk : ∀ k, octet_Bytes.f (k + 1) l i (rd l i + 1) = _ := fun k => bytes_ok (k := k) hl h0 (by omega) (by omega)
    obtain ⟨lb, hlb⟩ : ∃ lb, lb = (l.drop i.toNat).take (rd l i + 1).toNat := ⟨_, rfl⟩
    rw [← hlb] at hbk
    have hlbl : (lb.length : Int) = rd l i + 1 := by rw [hlb]; simp; omega
    have hlbb : bytesB lb = true := by rw [hlb]; exact bytesB_take _ (bytesB_drop _ hb)
    have hlbf : ∃ x, lb = rd l i :: x := by
      rw [hlb, show (rd l i + 1).toNat = (rd l i).toNat + 1 by omega, take_head l i h0 (by omega)]; exact ⟨_, rfl⟩
    obtain ⟨x, hx⟩ := hlbf
    have hLab : Lab lb := by
      rw [hx]
      refine .one (by omega) (by omega) ?_
      have := congrArg List.length hx
      simp at this; omega
    by_cases hlong : ((out ++ lb).length : Int) > 254
    · refine ⟨(⟨#[]⟩, 0, 3, at_), fun k hk => ?_, .inl ⟨by simp, rfl, rfl, ha0, ha1⟩⟩
      obtain ⟨k, rfl⟩ : ∃ m, k = m + 2 := ⟨k - 2, by omega⟩
      rw [wire_Read.l0, if_neg (by omega), if_pos h0, if_pos (by omega), hw, if_neg hz, if_neg hptr, if_neg h63, hw2, hbk]
      simp only [Option.bind_some]
      rw [if_pos trivial, if_pos (by omega), if_pos hlong]
    simp only [List.length_append] at hlong
    obtain ⟨r, hr, hq⟩ := ih (out ++ lb) part (i + (rd l i + 1)) behind (bytesB_append.2 ⟨hob, hlbb⟩) (by simp; omega) (by omega) (by omega) hp0 hp1 (by simp; omega)
    refine ⟨r, fun k hk => ?_, ?_⟩
    · obtain ⟨k, rfl⟩ : ∃ m, k = m + 2 := ⟨k - 2, by omega⟩
      rw [wire_Read.l0, if_neg (by omega), if_pos h0, if_pos (by omega), hw, if_neg hz, if_neg hptr, if_neg h63, hw2, hbk]
      simp only [Option.bind_some]
      rw [if_pos trivial, if_pos (by omega), if_neg (by simp only [List.length_append]; omega)]
      exact hr _ (by omega)
    · rcases hq with hq | ⟨ls, nx, q1, q2, q3, q4, q5, q6⟩
      · exact .inl hq
      · simp only [List.length_append] at q3
        refine .inr ⟨lb ++ ls, nx, hLab.append q1, bytesB_append.2 ⟨hlbb, q2⟩, by simp only [List.length_append]; omega, by rw [q4, List.append_assoc, List.append_assoc, List.append_assoc, List.append_assoc], q5, fun hbe => ?_⟩
        obtain ⟨g1, g2, g3, g4⟩ := q6 hbe
        refine ⟨by omega, g2, by simp only [List.length_append]; omega, ?_⟩
        rcases g4 with ⟨g5, g6⟩ | ⟨j, g5, g6, g7⟩
        · refine .inl ⟨by simp only [List.length_append]; omega, fun k a0 p2 a hk ha => ?_⟩
          obtain ⟨k, rfl⟩ : ∃ m, k = m + 2 := ⟨k - 2, by omega⟩
          have hlen : ((l.drop a).length : Int) = l.length - a := by simp; omega
          have hbk2 : octet_Bytes.f (k + 1) (l.drop a) (i - a) (rd l i + 1) = some (lb, i - a + (rd l i + 1), 0, 0) := by
            rw [bytes_ok (by omega) (by omega) (by omega) (by omega), List.drop_drop, hlb]
            congr 4; omega
          rw [wire_Read.l0, if_neg (by omega), if_pos (by omega), if_pos (by omega), rd_drop l a i ha, hw, if_neg hz, if_neg hptr, if_neg h63, hw2, hbk2]
          simp only [Option.bind_some]
          rw [if_pos trivial, if_pos (by omega), if_neg (by simp only [List.length_append]; omega)]
          have := g6 (k + 1) a0 p2 a (by omega) (by omega)
          rw [show i - a + (rd l i + 1) = i + (rd l i + 1) - a by omega, this]
          simp
        · exact .inr ⟨lb.length + j, by simp only [List.length_append]; omega, by simp only [Int.natCast_add]; omega, by simp only [List.length_append]; omega⟩
end Go.Proofs.Ytjjbhpbmfpodeaa.PB
end
section
namespace Go.Proofs.Ytjjbhpbmfpodeaa.PB
open Go.RowKit Go.Proofs.Ytjjbhpbmfpodeaa.X Go.Proofs.YtjjbhpbmfpodeaaW.PrintWords Go.Proofs.YtjjbhpbmfpodeaaW.PrintLast
set_option linter.unusedVariables false

theorem leO_le {α : Type} {f : Nat → Option α} (h : ∀ k, LeO (f k) (f (k + 1))) {k m : Nat} (hk : k ≤ m) : LeO (f k) (f m) := by
  induction hk with
  | refl => exact LeO.refl _
  | step _ ih => exact ih.trans (h _)

theorem read_at {l : List Int} (hb : bytesB l = true) (hl : l.length ≤ 140737488351232) {a : Int} (h0 : 0 ≤ a) (h1 : a ≤ l.length) :
    ∃ r, (∀ k, a.toNat + 257 < k → wire_Read.f k l a = some r) ∧ RdQ l a (a.toNat + 256) [] a (-1) r := by
  obtain ⟨r, hr, hq⟩ := rd_loop hb hl h0 h1 (a.toNat + 256) [] a a (-1) rfl (by simp) h0 h1 h0 h1 (by simp)
  refine ⟨r, fun k hk => ?_, hq⟩
  obtain ⟨k, rfl⟩ : ∃ m, k = m + 1 := ⟨k - 1, by omega⟩
  unfold wire_Read.f
  rw [if_neg (by omega), decide_eq_false (by omega), wire_Read.j0, if_neg (by decide)]
  exact hr k (by omega)

theorem read_awake : wire_Read.f 12 [1, 97, 0, 1, 98, 192, 0] 3 = some (strOfNums [1, 98, 1, 97, 0], 7, 0, 0) := by decide +kernel
theorem awake5 {k : Nat} (hk : 12 ≤ k) : ostiarylaw05_awake.f k = some true := by
  refine leO_le ostiarylaw05_awake.mono hk _ ?_
  unfold ostiarylaw05_awake.f
  rw [read_awake]
  simp only [Option.bind_some]
  rw [ByteArray.toList_eq, strOfNums_data]
  rfl

theorem str_toList_eq {a b : ByteArray} (h : a.toList = b.toList) : a = b := by
  apply ByteArray.ext
  apply Array.toList_inj.1
  rwa [ByteArray.toList_eq, ByteArray.toList_eq] at h
end Go.Proofs.Ytjjbhpbmfpodeaa.PB
namespace Go.Proofs.Ytjjbhpbmfpodeaa.Pure
open Go.RowKit Go.Proofs.Ytjjbhpbmfpodeaa.X Go.Proofs.Ytjjbhpbmfpodeaa.PB Go.Proofs.YtjjbhpbmfpodeaaW.PrintWords Go.Proofs.YtjjbhpbmfpodeaaW.PrintLast

theorem WireEnds : ostiarylaw05_WireEnds.Pure := by
  intro l a1 hmax hl hwf ha
  have hb := bytesB_of hwf
  refine ⟨5000, ?_⟩
  unfold ostiarylaw05_WireEnds.f
  rw [awake5 (by omega)]
  simp only [Option.bind_some]
  by_cases hbig : (l.length : Int) > 2000
  · rw [if_pos hbig]
  rw [if_neg hbig, w64 (by omega) (by omega), pick_ok ha (by omega)]
  simp only [Option.bind_some]
  obtain ⟨hp0, hp1⟩ := pick_range a1 (n := (l.length : Int) + 1) (by omega)
  obtain ⟨p, hp⟩ : ∃ p, p = pick a1 ((l.length : Int) + 1) := ⟨_, rfl⟩
  rw [← hp] at hp0 hp1 ⊢
  obtain ⟨r, hr, hq⟩ := read_at hb (by omega) hp0 (by omega)
  rw [hr 5000 (by omega)]
  simp only [Option.bind_some]
  rcases hq with ⟨e1, e2, e3, e4, e5⟩ | ⟨ls, nx, q1, q2, q3, q4, q5, q6⟩
  · rw [if_neg e1, if_pos trivial, e2, if_pos (by rw [ByteArray.toList_eq]), if_pos e3, if_pos e4, decide_eq_true e5]
  · obtain ⟨g1, g2, g3, g4⟩ := q6 (by decide)
    simp only [List.length_nil] at q3
    rw [q4]
    simp only [List.nil_append]
    rw [if_pos trivial, check_ok q1 q2 (by omega)]
    simp only [Option.bind_some]
    rw [if_pos trivial, if_neg (by omega), if_neg (by omega), w64 (by omega) (by omega), decide_eq_false (by omega), ostiarylaw05_WireEnds.j0, if_neg (by decide), w64 (by omega) (by omega), if_pos (by omega), if_pos (by omega)]
    split
    · rw [w64 (by omega) (by omega), strOfNums_size]
      simp only [List.length_append, List.length_cons, List.length_nil]
      split
      · rename_i hlen
        rw [if_pos (by omega)]
        rcases g4 with ⟨g5, g6⟩ | ⟨j, g5, g6, g7⟩
        · have hs := g6 4998 0 0 p.toNat (by omega) (by omega)
          have hp2 : p - (p.toNat : Int) = 0 := by omega
          rw [hp2] at hs
          have hf : wire_Read.f 4999 (l.drop p.toNat) 0 = some (strOfNums (ls ++ [0]), nx - p, 0, 0) := by
            unfold wire_Read.f
            rw [if_neg (by decide), decide_eq_false (by omega), wire_Read.j0, if_neg (by decide), hs, show (p.toNat : Int) = p by omega]
            rfl
          rw [hf]
          simp
        · omega
      · rfl
    · rfl
end Go.Proofs.Ytjjbhpbmfpodeaa.Pure
end
section
namespace Go.Proofs.Ytjjbhpbmfpodeaa.X
open Go.RowKit Go.Proofs.Ytjjbhpbmfpodeaa.PB Go.Proofs.YtjjbhpbmfpodeaaW.PrintWords Go.Proofs.YtjjbhpbmfpodeaaW.PrintLast Go.Proofs.YtjjbhpbmfpodeaaW.PrintMore
set_option linter.unusedVariables false
set_option linter.unusedSimpArgs false
attribute [local go_sem] Oper.semAt_some

/-- What wire.Read tells. -/
def wireR (l : List Int) (i : Int) : ByteArray × Int × Int × Int := (wire_Read.f (i.toNat + 258) l i).getD (⟨#[]⟩, 0, 5, 0)
theorem wireR_at {l : List Int} (hb : bytesB l = true) (hl : l.length ≤ 70000) {i : Int} (h0 : 0 ≤ i) (h1 : i ≤ l.length) : wire_Read.f (i.toNat + 258) l i = some (wireR l i) ∧
    (((wireR l i).2.2.1 ≠ 0 ∧ (wireR l i).1 = ⟨#[]⟩ ∧ (wireR l i).2.1 = 0 ∧ 0 ≤ (wireR l i).2.2.2 ∧ (wireR l i).2.2.2 ≤ l.length) ∨
     (∃ ls nx, Lab ls ∧ bytesB ls = true ∧ ls.length ≤ 254 ∧ wireR l i = (strOfNums (ls ++ [0]), nx, 0, 0) ∧ i < nx ∧ nx ≤ l.length)) := by
  obtain ⟨r, hr, hq⟩ := read_at hb (by omega) h0 h1
  have h := hr (i.toNat + 258) (by omega)
  have e : wireR l i = r := by unfold wireR; rw [h]; rfl
  rw [e]
  refine ⟨h, ?_⟩
  rcases hq with hq | ⟨ls, nx, q1, q2, q3, q4, q5, q6⟩
  · exact .inl hq
  · have g := q6 (by decide)
    exact .inr ⟨ls, nx, q1, q2, by simpa using q3, by simpa using q4, g.1, g.2.1⟩

/-- The parts, one by one: the data and where they end, or the fault. -/
def rdGo (l : List Int) (en a : Int) : List S119 → Int → ByteArray → (ByteArray × Int) ⊕ (Int × Int)
  | [], i, out => .inl (out, i)
  | p :: ps, i, out =>
    if p.f1 = true then
      if (wireR l i).2.2.1 ≠ 0 then .inr ((wireR l i).2.2.1, (wireR l i).2.2.2) else if en < (wireR l i).2.1 then .inr (4, a) else rdGo l en a ps (wireR l i).2.1 (out ++ (wireR l i).1)
    else if p.f2 = true then rdGo l en a ps en (out ++ strOfNums ((l.take en.toNat).drop i.toNat))
    else if en - i < p.f0 then .inr (4, a) else rdGo l en a ps (i + p.f0) (out ++ strOfNums ((l.take (i + p.f0).toNat).drop i.toNat))
/-- What Read tells of the parts. -/
def readEnd (t en a : Int) : (ByteArray × Int) ⊕ (Int × Int) → ByteArray × Int × Int
  | .inr (e, f) => (⟨#[]⟩, e, f)
  | .inl (out, i) => if i = en ∧ rdata_Check.f 1 t out = some 0 then (out, 0, 0) else (⟨#[]⟩, 4, a)
theorem readEnd_ok {t en a : Int} {out : ByteArray} (h : rdata_Check.f 1 t out = some 0) : readEnd t en a (.inl (out, en)) = (out, 0, 0) := by
  unfold readEnd; exact if_pos ⟨rfl, h⟩
theorem readEnd_bad {t en a i : Int} {out : ByteArray} (h : ¬ (i = en ∧ rdata_Check.f 1 t out = some 0)) : readEnd t en a (.inl (out, i)) = (⟨#[]⟩, 4, a) := by
  unfold readEnd; exact if_neg h
/-- What Read tells. -/
def readR (l : List Int) (a sz t : Int) : ByteArray × Int × Int :=
  if t < 0 ∨ 65535 < t ∨ sz < 0 ∨ 65535 < sz then (⟨#[]⟩, 2, 0) else if a < 0 ∨ (l.length : Int) < a then (⟨#[]⟩, 5, 0) else if (l.length : Int) - a < sz then (⟨#[]⟩, 4, (l.length : Int)) else
    match partsL t with
    | none => (strOfNums ((l.take (a + sz).toNat).drop a.toNat), 0, 0)
    | some ps => readEnd t (a + sz) a (rdGo l (a + sz) a ps a ⟨#[]⟩)
def rdata_Read.f (l : List Int) (a sz t : Int) : Option (ByteArray × Int × Int) :=
  if bytesB l = true ∧ l.length ≤ 70000 ∧ (Lit.int .i64 a).wf = true then some (readR l a sz t) else none

theorem check_of {t : Int} {s : ByteArray} (h0 : 0 ≤ t) (h1 : t ≤ 65535) (hs : s.size ≤ 100000000000) : ∃ c, rdata_Check.f 1 t s = some c := by
  have hw : (Lit.int .i64 t).wf = true := WalkArith.wf_i64 (by omega)
  unfold rdata_Check.f
  rw [if_neg (by omega), decide_eq_false (by omega), rdata_Check.j0, if_neg (by decide)]
  by_cases h : (s.size : Int) > 65535
  · rw [if_pos h]; exact ⟨_, rfl⟩
  · rw [if_neg h]
    unfold rdata_split.f
    rw [if_pos ⟨hw, hs⟩]
    simp only [Option.bind_some]
    split <;> exact ⟨_, rfl⟩

set_option maxHeartbeats 16000000 in
set_option maxRecDepth 100000 in
theorem rdata_Read.in_ (n : Nat) (hn : 7 ≤ n) (A0 : Option Addr) (c0 : Nat) (l0 : List Int) (a sz t : Int) (w : World) (hr0 : Kd.C (Kd.int .u8) w A0 l0.length l0) (hc0 : l0.length ≤ c0) (hb : bytesB l0 = true) (hl : l0.length ≤ 70000) (ha : -9223372036854775808 ≤ a ∧ a ≤ 9223372036854775807) :
    CallsIn Fence.wide n Try.prog 57 #[.slice A0 l0.length c0, .int .i64 a, .int .i64 sz, .int .i64 t] w fun e w' => e = .returned (.tuple #[.string (readR l0 a sz t).1, .agg #[.int .i64 (readR l0 a sz t).2.1, .int .i64 (readR l0 a sz t).2.2]]) ∧ Below w.heap.size w w' := by
  have HR := Aside0.mk hr0
  have HC := Aside0.mk hc0
  have HBB := Aside0.mk hb
  have HL := Aside0.mk hl
  have HA := Aside0.mk ha
  clear hr0 hc0
  unfold readR
  by_cases h1 : t < 0 ∨ 65535 < t ∨ sz < 0 ∨ 65535 < sz
  · rw [if_pos h1]
    rcases (show (t < 0) ∨ (¬ t < 0 ∧ 65535 < t) ∨ (¬ t < 0 ∧ ¬ 65535 < t ∧ sz < 0) ∨ (¬ t < 0 ∧ ¬ 65535 < t ∧ ¬ sz < 0 ∧ 65535 < sz) by omega) with h | ⟨g1, h⟩ | ⟨g1, g2, h⟩ | ⟨g1, g2, g3, h⟩
    · have d1 : decide (t < 0) = true := decide_eq_true h
      refine callsIn_of_wp Try.func57 rfl trivial ?_ rfl
      simp only [Try.ntmps57, List.size_toArray, List.length_cons, List.length_nil, Nat.reduceAdd, Nat.reduceSub, Array.replicate_succ, Array.replicate_zero, List.push_toArray, List.append_toArray, List.nil_append, List.cons_append]
      gi_wp2
      refine bodyPost_ret (results_list (rs := [.tmp 8, .cell 9 31]) rfl (by simp) (.tmp (.cell w.heap.size 31 #[.int .i64 2, .int .i64 0] (0, 0) _ rfl (blk_new w _) Try.underlying31 rfl (by kernel_rfl) .nil))) rfl ?_
      exact ⟨rfl, below_alloc (Below.refl _ _) _⟩
    · have d1 : decide (t < 0) = false := decide_eq_false g1
      have d2 : decide ((65535 : Int) < t) = true := decide_eq_true h
      refine callsIn_of_wp Try.func57 rfl trivial ?_ rfl
      simp only [Try.ntmps57, List.size_toArray, List.length_cons, List.length_nil, Nat.reduceAdd, Nat.reduceSub, Array.replicate_succ, Array.replicate_zero, List.push_toArray, List.append_toArray, List.nil_append, List.cons_append]
      gi_wp2
      refine bodyPost_ret (results_list (rs := [.tmp 8, .cell 9 31]) rfl (by simp) (.tmp (.cell w.heap.size 31 #[.int .i64 2, .int .i64 0] (0, 0) _ rfl (blk_new w _) Try.underlying31 rfl (by kernel_rfl) .nil))) rfl ?_
      exact ⟨rfl, below_alloc (Below.refl _ _) _⟩
    · have d1 : decide (t < 0) = false := decide_eq_false g1
      have d2 : decide ((65535 : Int) < t) = false := decide_eq_false g2
      have d3 : decide (sz < 0) = true := decide_eq_true h
      refine callsIn_of_wp Try.func57 rfl trivial ?_ rfl
      simp only [Try.ntmps57, List.size_toArray, List.length_cons, List.length_nil, Nat.reduceAdd, Nat.reduceSub, Array.replicate_succ, Array.replicate_zero, List.push_toArray, List.append_toArray, List.nil_append, List.cons_append]
      gi_wp2
      refine bodyPost_ret (results_list (rs := [.tmp 8, .cell 9 31]) rfl (by simp) (.tmp (.cell w.heap.size 31 #[.int .i64 2, .int .i64 0] (0, 0) _ rfl (blk_new w _) Try.underlying31 rfl (by kernel_rfl) .nil))) rfl ?_
      exact ⟨rfl, below_alloc (Below.refl _ _) _⟩
    · have d1 : decide (t < 0) = false := decide_eq_false g1
      have d2 : decide ((65535 : Int) < t) = false := decide_eq_false g2
      have d3 : decide (sz < 0) = false := decide_eq_false g3
      have d4 : decide ((65535 : Int) < sz) = true := decide_eq_true h
      refine callsIn_of_wp Try.func57 rfl trivial ?_ rfl
      simp only [Try.ntmps57, List.size_toArray, List.length_cons, List.length_nil, Nat.reduceAdd, Nat.reduceSub, Array.replicate_succ, Array.replicate_zero, List.push_toArray, List.append_toArray, List.nil_append, List.cons_append]
      gi_wp2
      refine bodyPost_ret (results_list (rs := [.tmp 8, .cell 9 31]) rfl (by simp) (.tmp (.cell w.heap.size 31 #[.int .i64 2, .int .i64 0] (0, 0) _ rfl (blk_new w _) Try.underlying31 rfl (by kernel_rfl) .nil))) rfl ?_
      exact ⟨rfl, below_alloc (Below.refl _ _) _⟩
  rw [if_neg h1]
  have d1 : decide (t < 0) = false := decide_eq_false (by omega)
  have d2 : decide ((65535 : Int) < t) = false := decide_eq_false (by omega)
  have d3 : decide (sz < 0) = false := decide_eq_false (by omega)
  have d4 : decide ((65535 : Int) < sz) = false := decide_eq_false (by omega)
  by_cases h2 : a < 0 ∨ (l0.length : Int) < a
  · rw [if_pos h2]
    by_cases h : a < 0
    · have d5 : decide (a < 0) = true := decide_eq_true h
      refine callsIn_of_wp Try.func57 rfl trivial ?_ rfl
      simp only [Try.ntmps57, List.size_toArray, List.length_cons, List.length_nil, Nat.reduceAdd, Nat.reduceSub, Array.replicate_succ, Array.replicate_zero, List.push_toArray, List.append_toArray, List.nil_append, List.cons_append]
      gi_wp2
      refine bodyPost_ret (results_list (rs := [.tmp 8, .cell 9 31]) rfl (by simp) (.tmp (.cell w.heap.size 31 #[.int .i64 5, .int .i64 0] (0, 0) _ rfl (blk_new w _) Try.underlying31 rfl (by kernel_rfl) .nil))) rfl ?_
      exact ⟨rfl, below_alloc (Below.refl _ _) _⟩
    · have d5 : decide (a < 0) = false := decide_eq_false h
      have d6 : decide ((l0.length : Int) < a) = true := decide_eq_true (by omega)
      refine callsIn_of_wp Try.func57 rfl trivial ?_ rfl
      simp only [Try.ntmps57, List.size_toArray, List.length_cons, List.length_nil, Nat.reduceAdd, Nat.reduceSub, Array.replicate_succ, Array.replicate_zero, List.push_toArray, List.append_toArray, List.nil_append, List.cons_append]
      gi_wp2
      refine bodyPost_ret (results_list (rs := [.tmp 8, .cell 9 31]) rfl (by simp) (.tmp (.cell w.heap.size 31 #[.int .i64 5, .int .i64 0] (0, 0) _ rfl (blk_new w _) Try.underlying31 rfl (by kernel_rfl) .nil))) rfl ?_
      exact ⟨rfl, below_alloc (Below.refl _ _) _⟩
  rw [if_neg h2]
  have d5 : decide (a < 0) = false := decide_eq_false (by omega)
  have d6 : decide ((l0.length : Int) < a) = false := decide_eq_false (by omega)
  have hw1 : IntKind.i64.wrap ((l0.length : Int) - a) = (l0.length : Int) - a := IntWalk.i64_in _ (by omega)
  by_cases h3 : (l0.length : Int) - a < sz
  · rw [if_pos h3]
    have d7 : decide ((l0.length : Int) - a < sz) = true := decide_eq_true h3
    refine callsIn_of_wp Try.func57 rfl trivial ?_ rfl
    simp only [Try.ntmps57, List.size_toArray, List.length_cons, List.length_nil, Nat.reduceAdd, Nat.reduceSub, Array.replicate_succ, Array.replicate_zero, List.push_toArray, List.append_toArray, List.nil_append, List.cons_append]
    gi_wp2
    refine bodyPost_ret (results_list (rs := [.tmp 8, .cell 9 31]) rfl (by simp) (.tmp (.cell w.heap.size 31 #[.int .i64 4, .int .i64 (l0.length : Int)] (0, 0) _ rfl (blk_new w _) Try.underlying31 rfl (by kernel_rfl) .nil))) rfl ?_
    exact ⟨rfl, below_alloc (Below.refl _ _) _⟩
  rw [if_neg h3]
  have d7 : decide ((l0.length : Int) - a < sz) = false := decide_eq_false (by omega)
  have hw2 : IntKind.i64.wrap (a + sz) = a + sz := IntWalk.i64_in _ (by omega)
  have HT : Aside0 (0 ≤ t ∧ t ≤ 65535) := ⟨by omega⟩
  have HWF : Aside0 ((Lit.int .i64 t).wf = true) := ⟨WalkArith.wf_i64 (by omega)⟩
  have HEN : Aside0 (0 ≤ a ∧ 0 ≤ sz ∧ a + sz ≤ (l0.length : Int) ∧ sz ≤ 65535) := ⟨by omega⟩
  obtain ⟨i5, hi5, _, hsz5, _⟩ := info_parts info5
  cases hp : partsL t with
  | none =>
    have HP := Aside0.mk hp
    obtain ⟨en, hen⟩ : ∃ en, en = a + sz := ⟨_, rfl⟩
    rw [← hen] at ⊢
    replace hw2 := hw2.trans hen.symm
    obtain ⟨A7, hsl7, hC7, hc7⟩ := print_mid_of (P := Try.prog) (Value.int .u8) (0 : Int) 22 5 .i64 .i64 Try.underlying22 hi5 hsz5 A0 c0 l0 a en (by omega) (by omega) (by omega) HC.out
    obtain ⟨ys7, hy7⟩ : ∃ ys, ys = (l0.take (en).toNat).drop (a).toNat := ⟨_, rfl⟩
    rw [← hy7] at hsl7 hC7 hc7
    have HY7 := Aside0.mk hy7
    rw [← hy7]
    have HCC7 := Aside0.mk hC7
    clear hC7 hy7 hc7 hp h1 h2 h3 hb hl ha hen
    refine callsIn_of_wp Try.func57 rfl trivial ?_ rfl
    simp only [Try.ntmps57, List.size_toArray, List.length_cons, List.length_nil, Nat.reduceAdd, Nat.reduceSub, Array.replicate_succ, Array.replicate_zero, List.push_toArray, List.append_toArray, List.nil_append, List.cons_append]
    gi_wp2_with (first
      | (first | refine ⟨trivial, fun _ => by omega, ?_⟩ | refine ⟨trivial, ?_⟩); refine (rdata_parts.in_ (n - 1) (by omega) t HWF.out _).mono ?_; rw [HP.out]; rintro e w1 ⟨v, rfl, hr, hb1⟩; obtain ⟨Al, cl, rfl, hcl, hCl⟩ := Kd.R_reads hr; have HB1 := Aside0.mk ((below_alloc (Below.refl _ _) _ : Below w.heap.size w (w.alloc (Obj.cells #[.int .i64 0, .int .i64 0] 31))).trans (hb1.mono (by simp))); have h9 := blk_below (blk_new w (Obj.cells #[.int .i64 0, .int .i64 0] 31)) hb1; have H9 := Aside0.mk h9; have c90 : w1.cell? ⟨w.heap.size, 0, none⟩ = some (.int .i64 0) := (blk_cell h9 0).trans rfl; have z90 := blk_frozen h9 0; have z91 := blk_frozen h9 1; have c91 : w1.cell? ⟨w.heap.size, 1, none⟩ = some (.int .i64 0) := (blk_cell h9 1).trans rfl; have hst : ∀ c, (convert 22 9 (.slice A7 ys7.length c)).run Try.prog w1 = .ok (.string (strOfNums ys7)) w1 := fun c => string_of_reads (P := Try.prog) Try.underlying22 Try.underlying5 Try.underlying9 (HCC7.out w1 (Kd.reads_of_C (Kd.C_below HR.out HB1.out))); clear hr hb1 hcl hCl h9)
    refine bodyPost_ret (results_list (rs := [.tmp 8, .cell 9 31]) rfl (by simp) (.tmp (.cell w.heap.size 31 #[.int .i64 0, .int .i64 0] (0, 0) _ rfl (blk_put (cs := #[.int .i64 0, .int .i64 0]) (blk_put (cs := #[.int .i64 0, .int .i64 0]) H9.out 0 _ rfl) 1 _ rfl) Try.underlying31 rfl (by kernel_rfl) .nil))) rfl ?_
    exact ⟨rfl, (HB1.out.setCell (Nat.le_refl _) _).setCell (Nat.le_refl _) _⟩
  | some ps =>
    have hok := partsL_ok hp
    have HP := Aside0.mk hp
    have HPL := Aside0.mk hok
    obtain ⟨en, hen⟩ : ∃ en, en = a + sz := ⟨_, rfl⟩
    have HEE := Aside0.mk hen
    rw [← hen] at ⊢
    replace hw2 := hw2.trans hen.symm
    obtain ⟨RES, hRES⟩ : ∃ RES, RES = rdGo l0 en a ps a ⟨#[]⟩ := ⟨_, rfl⟩
    show CallsIn _ _ _ _ _ _ fun e w' => e = .returned (.tuple #[.string (readEnd t en a (rdGo l0 en a ps a ⟨#[]⟩)).1, .agg #[.int .i64 (readEnd t en a (rdGo l0 en a ps a ⟨#[]⟩)).2.1, .int .i64 (readEnd t en a (rdGo l0 en a ps a ⟨#[]⟩)).2.2]]) ∧ _
    rw [← hRES]
    have HRES := Aside0.mk hRES
    clear hok hp hen hRES h1 h2 h3 hb hl ha
    refine callsIn_of_wp Try.func57 rfl trivial ?_ rfl
    simp only [Try.ntmps57, List.size_toArray, List.length_cons, List.length_nil, Nat.reduceAdd, Nat.reduceSub, Array.replicate_succ, Array.replicate_zero, List.push_toArray, List.append_toArray, List.nil_append, List.cons_append]
    gi_wp2_with (first
      | (first | refine ⟨trivial, fun _ => by omega, ?_⟩ | refine ⟨trivial, ?_⟩); refine (rdata_parts.in_ (n - 1) (by omega) t HWF.out _).mono ?_; rw [HP.out]; rintro e w1 ⟨v, rfl, hr, hb1⟩; obtain ⟨Al, cl, rfl, hcl, hCl⟩ := Kd.R_reads hr; simp only [Option.getD_some] at hCl; have HCP := Aside0.mk hCl; have H9 := Aside0.mk (blk_below (blk_new w (Obj.cells #[.int .i64 0, .int .i64 0] 31)) hb1); have HB1 := Aside0.mk ((below_alloc (Below.refl _ _) _ : Below w.heap.size w (w.alloc (Obj.cells #[.int .i64 0, .int .i64 0] 31))).trans (hb1.mono (by simp))); clear hr hb1 hcl hCl)
    gi_loopw [14, 15, 78] (fun o i j wr => ∃ (out : ByteArray) (I J : Int), o = .string out ∧ i = .int .i64 I ∧ j = .int .i64 J ∧ 0 ≤ J ∧ J ≤ (ps.length : Int) ∧ a ≤ I ∧ I ≤ en ∧ Aside0 (rdGo l0 en a (ps.drop J.toNat) I out = RES ∧ out.size ≤ 70000 * J.toNat) ∧ Aside0 (Below (w1.alloc (Obj.cells #[.int .i64 4, .int .i64 a] 31)).heap.size (w1.alloc (Obj.cells #[.int .i64 4, .int .i64 a] 31)) wr))
      (fun _ _ j _ => match j with | .int _ J => ((ps.length : Int) - J).toNat | _ => 0)
    case atStart => exact ⟨⟨#[]⟩, a, 0, rfl, rfl, rfl, by omega, by omega, by omega, by have := HEE.out; have := HEN.out; omega, ⟨HRES.out.symm, Nat.zero_le _⟩, ⟨Below.refl _ _⟩⟩
    case round =>
      obtain ⟨out, I, J, rfl, rfl, rfl, h0, h1, h2, h3, HK, HBw⟩ := hrel
      have HJ := Aside0.mk (And.intro h0 (And.intro h1 (And.intro h2 h3)))
      have hen := HEN.out
      have hee := HEE.out
      have hbA : Below w1.heap.size w1 (w1.alloc (Obj.cells #[.int .i64 4, .int .i64 a] 31)) := below_alloc (Below.refl _ _) _
      have hbw1 : Below w1.heap.size w1 wr := hbA.trans (HBw.out.mono hbA.size)
      have HBF := Aside0.mk (HB1.out.trans (hbw1.mono HB1.out.size))
      have HRw := Aside0.mk (Kd.C_below HR.out HBF.out)
      have H9w := Aside0.mk (blk_below H9.out hbw1)
      have H13w := Aside0.mk (blk_below (blk_new w1 (Obj.cells #[.int .i64 4, .int .i64 a] 31)) HBw.out)
      have hC := Kd.C_below HCP.out hbw1
      by_cases hlt : J < (ps.length : Int)
      · have d8 : decide (J < (ps.length : Int)) = true := decide_eq_true hlt
        obtain ⟨ad, rfl, hx0, hx1, hx2⟩ := at_T119 hC J h0 hlt
        have hpd : ps.drop J.toNat = rd_T119 ps J :: ps.drop (J.toNat + 1) := by
          have hj : J.toNat < ps.length := by omega
          rw [List.drop_eq_getElem_cons hj]
          congr 1
          unfold rd_T119
          rw [List.getD_eq_getElem?_getD, List.getElem?_eq_getElem hj]; rfl
        have hpm : rd_T119 ps J ∈ ps := by
          have : rd_T119 ps J ∈ ps.drop J.toNat := by rw [hpd]; exact List.mem_cons_self
          exact List.mem_of_mem_drop this
        have hpo := HPL.out.2 _ hpm
        obtain ⟨⟨f0, f1, f2⟩, hpe⟩ : ∃ p, p = rd_T119 ps J := ⟨_, rfl⟩
        rw [← hpe] at hx0 hx1 hx2 hpd hpo
        have hk := HK.out.1
        rw [hpd] at hk
        have hwj : IntKind.i64.wrap (J + 1) = J + 1 := IntWalk.i64_in _ (by have := HPL.out.1; omega)
        have hp0 := eq_true h0
        have hq0 := eq_true hlt
        have HLT := Aside0.mk hlt
        have hjn : (J + 1).toNat = J.toNat + 1 := by omega
        have HJN := Aside0.mk hjn
        have HOS : Aside0 (out.size ≤ 210000) := ⟨by have := HK.out.2; have := HPL.out.1; omega⟩
        clear hpd hpm hpe hC hbA hbw1 hjn
        simp only at hx0 hx1 hx2 hpo
        have HPO := Aside0.mk hpo
        cases f1 with
        | true =>
          have hI0 : 0 ≤ I := by omega
          have hI1 : I ≤ (l0.length : Int) := by omega
          obtain ⟨hf, hcase⟩ := wireR_at HBB.out HL.out hI0 hI1
          obtain ⟨⟨n1, nx, e, fa⟩, hW⟩ : ∃ x, x = wireR l0 I := ⟨_, rfl⟩
          rw [rdGo, ← hW] at hk
          rw [← hW] at hf hcase
          rw [if_pos rfl] at hk
          simp only at hk
          have HF := Aside0.mk hf
          clear hf hW hpo
          by_cases he : e = 0
          · subst he
            rw [if_neg (by simp)] at hk
            rcases hcase with ⟨hc, _⟩ | ⟨ls, nx', q1, q2, q3, q4, q5, q6⟩
            · exact absurd rfl hc
            obtain ⟨rfl, rfl, rfl⟩ : n1 = strOfNums (ls ++ [0]) ∧ nx = nx' ∧ fa = 0 := by simpa using q4
            have HNS : Aside0 ((strOfNums (ls ++ [0])).size ≤ 255) := ⟨by rw [strOfNums_size]; simp; omega⟩
            obtain ⟨n1, hn1⟩ : ∃ n1, n1 = strOfNums (ls ++ [0]) := ⟨_, rfl⟩
            rw [← hn1] at hk HF HNS
            have HNX := Aside0.mk q5
            clear q1 q2 q3 q4 q6 hn1
            by_cases hlate : en < nx
            · have d9 : decide (en < nx) = true := decide_eq_true hlate
              rw [if_pos hlate] at hk
              have HRE := Aside0.mk hk.symm
              clear hk hlate h0 h1 h2 h3 hlt hen hee hI0 hI1 q5
              gi_wp2_with (first
                | (first | refine ⟨trivial, fun _ => by omega, ?_⟩ | refine ⟨trivial, ?_⟩); refine (callsIn_wide.2 (wire_Read.calls (I.toNat + 258) A0 c0 l0 I n1 nx 0 0 _ (Kd.C_below HRw.out (below_alloc (Below.refl _ _) _)) HC.out HF.out)).mono ?_; rintro e5 w5 ⟨rfl, hb5⟩; have H5 : Aside0 (Below wr.heap.size wr w5) := ⟨(below_alloc (Below.refl _ _) _).trans (hb5.mono (by simp))⟩; have q200 : (w5.alloc (Obj.cells #[.int .i64 0, .int .i64 0] 31)).cell? ⟨w5.heap.size, 0, none⟩ = some (.int .i64 0) := (blk_cell (blk_new w5 _) 0).trans rfl; have q201 : (w5.alloc (Obj.cells #[.int .i64 0, .int .i64 0] 31)).cell? ⟨w5.heap.size, 1, none⟩ = some (.int .i64 0) := (blk_cell (blk_new w5 _) 1).trans rfl; clear hb5; have h13 := blk_alloc (blk_below H13w.out H5.out) (Obj.cells #[.int .i64 0, .int .i64 0] 31); have q130 : (w5.alloc (Obj.cells #[.int .i64 0, .int .i64 0] 31)).cell? ⟨w1.heap.size, 0, none⟩ = some (.int .i64 4) := (blk_cell h13 0).trans rfl; have q131 : (w5.alloc (Obj.cells #[.int .i64 0, .int .i64 0] 31)).cell? ⟨w1.heap.size, 1, none⟩ = some (.int .i64 a) := (blk_cell h13 1).trans rfl; clear h13; have h9 := blk_alloc (blk_below H9w.out H5.out) (Obj.cells #[.int .i64 0, .int .i64 0] 31); have c90 : (w5.alloc (Obj.cells #[.int .i64 0, .int .i64 0] 31)).cell? ⟨w.heap.size, 0, none⟩ = some (.int .i64 0) := (blk_cell h9 0).trans rfl; have c91 : (w5.alloc (Obj.cells #[.int .i64 0, .int .i64 0] 31)).cell? ⟨w.heap.size, 1, none⟩ = some (.int .i64 0) := (blk_cell h9 1).trans rfl; have z90 := blk_frozen h9 0; have z91 := blk_frozen h9 1; have H9z := Aside0.mk h9; clear h9)
              gi_region
              all_goals
                gi_wp2
                refine bodyPost_ret (results_list (rs := [.tmp 8, .cell 9 31]) rfl (by simp) (.tmp (.cell w.heap.size 31 #[.int .i64 4, .int .i64 a] (0, 0) _ rfl (blk_put (cs := #[.int .i64 4, .int .i64 0]) (blk_put (cs := #[.int .i64 0, .int .i64 0]) H9z.out 0 _ rfl) 1 _ rfl) Try.underlying31 rfl (by kernel_rfl) .nil))) rfl ?_
                refine ⟨by rw [HRE.out]; rfl, ?_⟩
                exact ((below_drew (below_alloc (HBF.out.trans (H5.out.mono HBF.out.size)) _)).setCell (Nat.le_refl _) _).setCell (Nat.le_refl _) _
            · have d9 : decide (en < nx) = false := decide_eq_false hlate
              rw [if_neg hlate] at hk
              have HRE := Aside0.mk hk
              have HLA : Aside0 (nx ≤ en) := ⟨by omega⟩
              have hsum : (out ++ n1).size = out.size + n1.size := ByteArray.size_append
              have HSUM := Aside0.mk hsum
              have hf1 : (9223372036854775807 < out.size + n1.size) = False := eq_false (by have := HOS.out; have := HNS.out; omega)
              have hf2 : decide ((9223372036854775807 : Int) < (out.size : Int) + (n1.size : Int)) = false := decide_eq_false (by have := HOS.out; have := HNS.out; omega)
              have hf3 : ((9223372036854775807 : Int) < (out.size : Int) + (n1.size : Int)) = False := eq_false (by have := HOS.out; have := HNS.out; omega)
              clear hk hlate h0 h1 h2 h3 hlt hen hee hI0 hI1 q5 hsum
              gi_wp2_with (first
                | (first | refine ⟨trivial, fun _ => by omega, ?_⟩ | refine ⟨trivial, ?_⟩); refine (callsIn_wide.2 (wire_Read.calls (I.toNat + 258) A0 c0 l0 I n1 nx 0 0 _ (Kd.C_below HRw.out (below_alloc (Below.refl _ _) _)) HC.out HF.out)).mono ?_; rintro e5 w5 ⟨rfl, hb5⟩; have H5 : Aside0 (Below wr.heap.size wr w5) := ⟨(below_alloc (Below.refl _ _) _).trans (hb5.mono (by simp))⟩; have q200 : (w5.alloc (Obj.cells #[.int .i64 0, .int .i64 0] 31)).cell? ⟨w5.heap.size, 0, none⟩ = some (.int .i64 0) := (blk_cell (blk_new w5 _) 0).trans rfl; have q201 : (w5.alloc (Obj.cells #[.int .i64 0, .int .i64 0] 31)).cell? ⟨w5.heap.size, 1, none⟩ = some (.int .i64 0) := (blk_cell (blk_new w5 _) 1).trans rfl; clear hb5)
              exact ⟨⟨out ++ n1, nx, J + 1, rfl, rfl, rfl, by have := HJ.out; omega, by have := HLT.out; omega, by have := HJ.out; have := HNX.out; omega, by have := HLA.out; omega, ⟨by rw [HJN.out]; exact HRE.out, by rw [HSUM.out, HJN.out]; have := HK.out.2; have := HNS.out; omega⟩, ⟨HBw.out.trans ((below_alloc H5.out _).mono HBw.out.size)⟩⟩, by show ((ps.length : Int) - (J + 1)).toNat < ((ps.length : Int) - J).toNat; have := HLT.out; omega⟩
          · have he2 : (e != 0) = true := bne_iff_ne.2 he
            rw [if_pos he] at hk
            have HRE := Aside0.mk hk.symm
            clear hk h0 h1 h2 h3 hlt hen hee hI0 hI1 hcase he
            gi_wp2_with (first
              | (first | refine ⟨trivial, fun _ => by omega, ?_⟩ | refine ⟨trivial, ?_⟩); refine (callsIn_wide.2 (wire_Read.calls (I.toNat + 258) A0 c0 l0 I n1 nx e fa _ (Kd.C_below HRw.out (below_alloc (Below.refl _ _) _)) HC.out HF.out)).mono ?_; rintro e5 w5 ⟨rfl, hb5⟩; have H5 : Aside0 (Below wr.heap.size wr w5) := ⟨(below_alloc (Below.refl _ _) _).trans (hb5.mono (by simp))⟩; have q200 : (w5.alloc (Obj.cells #[.int .i64 e, .int .i64 fa] 31)).cell? ⟨w5.heap.size, 0, none⟩ = some (.int .i64 e) := (blk_cell (blk_new w5 _) 0).trans rfl; have q201 : (w5.alloc (Obj.cells #[.int .i64 e, .int .i64 fa] 31)).cell? ⟨w5.heap.size, 1, none⟩ = some (.int .i64 fa) := (blk_cell (blk_new w5 _) 1).trans rfl; clear hb5; have h9 := blk_alloc (blk_below H9w.out H5.out) (Obj.cells #[.int .i64 e, .int .i64 fa] 31); have c90 : (w5.alloc (Obj.cells #[.int .i64 e, .int .i64 fa] 31)).cell? ⟨w.heap.size, 0, none⟩ = some (.int .i64 0) := (blk_cell h9 0).trans rfl; have c91 : (w5.alloc (Obj.cells #[.int .i64 e, .int .i64 fa] 31)).cell? ⟨w.heap.size, 1, none⟩ = some (.int .i64 0) := (blk_cell h9 1).trans rfl; have z90 := blk_frozen h9 0; have z91 := blk_frozen h9 1; have H9z := Aside0.mk h9; clear h9)
            gi_region
            all_goals
              gi_wp2
              refine bodyPost_ret (results_list (rs := [.tmp 8, .cell 9 31]) rfl (by simp) (.tmp (.cell w.heap.size 31 #[.int .i64 e, .int .i64 fa] (0, 0) _ rfl (blk_put (cs := #[.int .i64 e, .int .i64 0]) (blk_put (cs := #[.int .i64 0, .int .i64 0]) H9z.out 0 _ rfl) 1 _ rfl) Try.underlying31 rfl (by kernel_rfl) .nil))) rfl ?_
              refine ⟨by rw [HRE.out]; rfl, ?_⟩
              exact ((below_drew (below_alloc (HBF.out.trans (H5.out.mono HBF.out.size)) _)).setCell (Nat.le_refl _) _).setCell (Nat.le_refl _) _
        | false =>
          cases f2 with
          | true =>
            rw [rdGo, if_neg (by simp), if_pos rfl] at hk
            obtain ⟨A8, hsl8, hC8, hc8⟩ := print_mid_of (P := Try.prog) (Value.int .u8) (0 : Int) 22 5 .i64 .i64 Try.underlying22 hi5 hsz5 A0 c0 l0 I en (by omega) (by omega) (by omega) HC.out
            obtain ⟨ys8, hy8⟩ : ∃ ys, ys = (l0.take (en).toNat).drop (I).toNat := ⟨_, rfl⟩
            rw [← hy8] at hsl8 hC8 hc8
            have HY8 := Aside0.mk hy8
            obtain ⟨n1, hn1⟩ : ∃ n1, n1 = strOfNums ys8 := ⟨_, rfl⟩
            have hst : ∀ c, (convert 22 9 (.slice A8 ys8.length c)).run Try.prog (wr.alloc (Obj.cells #[.int .i64 f0, .bool false, .bool true] 119)) = .ok (.string n1) (wr.alloc (Obj.cells #[.int .i64 f0, .bool false, .bool true] 119)) := fun c => by
              rw [hn1]
              exact string_of_reads (P := Try.prog) Try.underlying22 Try.underlying5 Try.underlying9 (hC8 _ (Kd.reads_of_C (Kd.C_below HRw.out (below_alloc (Below.refl _ _) _))))
            have HNS : Aside0 (n1.size ≤ 70000) := ⟨by rw [hn1, strOfNums_size, hy8, List.length_drop, List.length_take]; have := HL.out; omega⟩
            have hsum : (out ++ n1).size = out.size + n1.size := ByteArray.size_append
            have HSUM := Aside0.mk hsum
            rw [← hy8, ← hn1] at hk
            have HRE := Aside0.mk hk
            have HLA : Aside0 (en ≤ en) := ⟨by omega⟩
            have HNX : Aside0 (a ≤ en) := ⟨by omega⟩
            clear hk h0 h1 h2 h3 hlt hen hee hpo hsum hC8 hc8 hy8 hn1
            have hf1 : (9223372036854775807 < out.size + n1.size) = False := eq_false (by have := HOS.out; have := HNS.out; omega)
            have hf2 : decide ((9223372036854775807 : Int) < (out.size : Int) + (n1.size : Int)) = false := decide_eq_false (by have := HOS.out; have := HNS.out; omega)
            have hf3 : ((9223372036854775807 : Int) < (out.size : Int) + (n1.size : Int)) = False := eq_false (by have := HOS.out; have := HNS.out; omega)
            gi_wp2
            exact ⟨⟨out ++ n1, en, J + 1, rfl, rfl, rfl, by have := HJ.out; omega, by have := HLT.out; omega, by have := HJ.out; have := HNX.out; omega, by have := HLA.out; omega, ⟨by rw [HJN.out]; exact HRE.out, by rw [HSUM.out, HJN.out]; have := HK.out.2; have := HNS.out; omega⟩, ⟨HBw.out.trans ((below_alloc (Below.refl _ _) _).mono HBw.out.size)⟩⟩, by show ((ps.length : Int) - (J + 1)).toNat < ((ps.length : Int) - J).toNat; have := HLT.out; omega⟩
          | false =>
            have hwe : IntKind.i64.wrap (en - I) = en - I := IntWalk.i64_in _ (by have := HL.out; omega)
            by_cases hsz : en - I < f0
            · have d9 : decide (en - I < f0) = true := decide_eq_true hsz
              rw [rdGo, if_neg (by simp), if_neg (by simp), if_pos hsz] at hk
              have HRE := Aside0.mk hk.symm
              clear hk h0 h1 h2 h3 hlt hen hee hpo hsz
              have h9 := blk_alloc H9w.out (Obj.cells #[.int .i64 f0, .bool false, .bool false] 119)
              have c90 : (wr.alloc (Obj.cells #[.int .i64 f0, .bool false, .bool false] 119)).cell? ⟨w.heap.size, 0, none⟩ = some (.int .i64 0) := (blk_cell h9 0).trans rfl
              have c91 : (wr.alloc (Obj.cells #[.int .i64 f0, .bool false, .bool false] 119)).cell? ⟨w.heap.size, 1, none⟩ = some (.int .i64 0) := (blk_cell h9 1).trans rfl
              have z90 := blk_frozen h9 0
              have z91 := blk_frozen h9 1
              have H9z := Aside0.mk h9
              have h13 := blk_alloc H13w.out (Obj.cells #[.int .i64 f0, .bool false, .bool false] 119)
              have q130 : (wr.alloc (Obj.cells #[.int .i64 f0, .bool false, .bool false] 119)).cell? ⟨w1.heap.size, 0, none⟩ = some (.int .i64 4) := (blk_cell h13 0).trans rfl
              have q131 : (wr.alloc (Obj.cells #[.int .i64 f0, .bool false, .bool false] 119)).cell? ⟨w1.heap.size, 1, none⟩ = some (.int .i64 a) := (blk_cell h13 1).trans rfl
              clear h9 h13
              gi_wp2
              gi_region
              all_goals
                gi_wp2
                refine bodyPost_ret (results_list (rs := [.tmp 8, .cell 9 31]) rfl (by simp) (.tmp (.cell w.heap.size 31 #[.int .i64 4, .int .i64 a] (0, 0) _ rfl (blk_put (cs := #[.int .i64 4, .int .i64 0]) (blk_put (cs := #[.int .i64 0, .int .i64 0]) H9z.out 0 _ rfl) 1 _ rfl) Try.underlying31 rfl (by kernel_rfl) .nil))) rfl ?_
                refine ⟨by rw [HRE.out]; rfl, ?_⟩
                exact ((below_drew (below_alloc HBF.out _)).setCell (Nat.le_refl _) _).setCell (Nat.le_refl _) _
            · have d9 : decide (en - I < f0) = false := decide_eq_false hsz
              rw [rdGo, if_neg (by simp), if_neg (by simp), if_neg hsz] at hk
              have hwI : IntKind.i64.wrap (I + f0) = I + f0 := IntWalk.i64_in _ (by have := HL.out; omega)
              have hpf := hpo.2.1
              obtain ⟨A8, hsl8, hC8, hc8⟩ := print_mid_of (P := Try.prog) (Value.int .u8) (0 : Int) 22 5 .i64 .i64 Try.underlying22 hi5 hsz5 A0 c0 l0 I (I + f0) (by omega) (by omega) (by omega) HC.out
              obtain ⟨ys8, hy8⟩ : ∃ ys, ys = (l0.take ((I + f0)).toNat).drop (I).toNat := ⟨_, rfl⟩
              rw [← hy8] at hsl8 hC8 hc8
              have HY8 := Aside0.mk hy8
              obtain ⟨n1, hn1⟩ : ∃ n1, n1 = strOfNums ys8 := ⟨_, rfl⟩
              have hst : ∀ c, (convert 22 9 (.slice A8 ys8.length c)).run Try.prog (wr.alloc (Obj.cells #[.int .i64 f0, .bool false, .bool false] 119)) = .ok (.string n1) (wr.alloc (Obj.cells #[.int .i64 f0, .bool false, .bool false] 119)) := fun c => by
                rw [hn1]
                exact string_of_reads (P := Try.prog) Try.underlying22 Try.underlying5 Try.underlying9 (hC8 _ (Kd.reads_of_C (Kd.C_below HRw.out (below_alloc (Below.refl _ _) _))))
              have HNS : Aside0 (n1.size ≤ 70000) := ⟨by rw [hn1, strOfNums_size, hy8, List.length_drop, List.length_take]; have := HL.out; omega⟩
              have hsum : (out ++ n1).size = out.size + n1.size := ByteArray.size_append
              have HSUM := Aside0.mk hsum
              rw [← hy8, ← hn1] at hk
              have HRE := Aside0.mk hk
              have HLA : Aside0 (I + f0 ≤ en) := ⟨by omega⟩
              have HNX : Aside0 (a ≤ I + f0) := ⟨by omega⟩
              have HST2 : Aside0 (∀ c, (convert 22 9 (.slice A8 ys8.length c)).run Try.prog (wr.alloc (Obj.cells #[.int .i64 f0, .bool false, .bool false] 119)).drew = .ok (.string n1) (wr.alloc (Obj.cells #[.int .i64 f0, .bool false, .bool false] 119)).drew) := ⟨fun c => by
                rw [hn1]
                exact string_of_reads (P := Try.prog) Try.underlying22 Try.underlying5 Try.underlying9 (hC8 _ (Kd.reads_of_C (Kd.C_below HRw.out (below_drew (below_alloc (Below.refl _ _) _)))))⟩
              have q170 : (wr.alloc (Obj.cells #[.int .i64 f0, .bool false, .bool false] 119)).cell? ⟨wr.heap.size, 0, none⟩ = some (.int .i64 f0) := (blk_cell (blk_new wr _) 0).trans rfl
              clear hk h0 h1 h2 h3 hlt hen hee hpo hsum hC8 hc8 hy8 hn1 hsz hpf
              have hf1 : (9223372036854775807 < out.size + n1.size) = False := eq_false (by have := HOS.out; have := HNS.out; omega)
              have hf2 : decide ((9223372036854775807 : Int) < (out.size : Int) + (n1.size : Int)) = false := decide_eq_false (by have := HOS.out; have := HNS.out; omega)
              have hf3 : ((9223372036854775807 : Int) < (out.size : Int) + (n1.size : Int)) = False := eq_false (by have := HOS.out; have := HNS.out; omega)
              gi_wp2
              have hst2 : ∀ c, (convert 22 9 (.slice A8 ys8.length c)).run Try.prog (wr.alloc (Obj.cells #[.int .i64 f0, .bool false, .bool false] 119)).drew = .ok (.string n1) (wr.alloc (Obj.cells #[.int .i64 f0, .bool false, .bool false] 119)).drew := HST2.out
              gi_region
              all_goals
                gi_wp2
                exact ⟨⟨out ++ n1, (I + f0), J + 1, rfl, rfl, rfl, by have := HJ.out; omega, by have := HLT.out; omega, by have := HJ.out; have := HNX.out; omega, by have := HLA.out; omega, ⟨by rw [HJN.out]; exact HRE.out, by rw [HSUM.out, HJN.out]; have := HK.out.2; have := HNS.out; omega⟩, ⟨HBw.out.trans ((below_drew (below_alloc (Below.refl _ _) _)).mono HBw.out.size)⟩⟩, by show ((ps.length : Int) - (J + 1)).toNat < ((ps.length : Int) - J).toNat; have := HLT.out; omega⟩
      · have d8 : decide (J < (ps.length : Int)) = false := decide_eq_false hlt
        have hk := HK.out.1
        have hj : J.toNat = ps.length := by omega
        rw [hj, List.drop_length] at hk
        have HRE : Aside0 (RES = .inl (out, I)) := ⟨hk.symm⟩
        have HOS : Aside0 (out.size ≤ 210000) := ⟨by have := HK.out.2; have := HPL.out.1; omega⟩
        obtain ⟨c, hc⟩ := check_of HT.out.1 HT.out.2 (s := out) (by have := HOS.out; omega)
        have HCK := Aside0.mk hc
        have h9 := H9w.out
        have c90 : wr.cell? ⟨w.heap.size, 0, none⟩ = some (.int .i64 0) := (blk_cell h9 0).trans rfl
        have c91 : wr.cell? ⟨w.heap.size, 1, none⟩ = some (.int .i64 0) := (blk_cell h9 1).trans rfl
        have z90 := blk_frozen h9 0
        have z91 := blk_frozen h9 1
        have q130 : wr.cell? ⟨w1.heap.size, 0, none⟩ = some (.int .i64 4) := (blk_cell H13w.out 0).trans rfl
        have q131 : wr.cell? ⟨w1.heap.size, 1, none⟩ = some (.int .i64 a) := (blk_cell H13w.out 1).trans rfl
        clear hk h0 h1 h2 h3 hlt hj hc h9 hC hbA hbw1 hen hee
        by_cases hie : I = en
        · subst hie
          by_cases hc0 : c = 0
          · subst hc0
            gi_wp2_with (first | (first | refine ⟨trivial, fun _ => by omega, ?_⟩ | refine ⟨trivial, ?_⟩); refine (callsIn_wide.2 (rdata_Check.calls 1 t out 0 _ HCK.out)).mono ?_; rintro e5 w5 ⟨rfl, hb5⟩; have H5 := Aside0.mk hb5; have h9 := blk_below H9w.out hb5; have H9z := Aside0.mk h9; have c90 : w5.cell? ⟨w.heap.size, 0, none⟩ = some (.int .i64 0) := (blk_cell h9 0).trans rfl; have c91 : w5.cell? ⟨w.heap.size, 1, none⟩ = some (.int .i64 0) := (blk_cell h9 1).trans rfl; have z90 := blk_frozen h9 0; have z91 := blk_frozen h9 1; clear hb5 h9)
            refine bodyPost_ret (results_list (rs := [.tmp 8, .cell 9 31]) rfl (by simp) (.tmp (.cell w.heap.size 31 #[.int .i64 0, .int .i64 0] (0, 0) _ rfl (blk_put (cs := #[.int .i64 0, .int .i64 0]) (blk_put (cs := #[.int .i64 0, .int .i64 0]) H9z.out 0 _ rfl) 1 _ rfl) Try.underlying31 rfl (by kernel_rfl) .nil))) rfl ?_
            refine ⟨?_, ((HBF.out.trans (H5.out.mono HBF.out.size)).setCell (Nat.le_refl _) _).setCell (Nat.le_refl _) _⟩
            rw [HRE.out, readEnd_ok HCK.out]
            rfl
          · have hc1 : (c != 0) = true := bne_iff_ne.2 hc0
            have HC0 := Aside0.mk hc0
            clear hc0
            gi_wp2_with (first | (first | refine ⟨trivial, fun _ => by omega, ?_⟩ | refine ⟨trivial, ?_⟩); refine (callsIn_wide.2 (rdata_Check.calls 1 t out c _ HCK.out)).mono ?_; rintro e5 w5 ⟨rfl, hb5⟩; have H5 := Aside0.mk hb5; have h9 := blk_below H9w.out hb5; have H9z := Aside0.mk h9; have c90 : w5.cell? ⟨w.heap.size, 0, none⟩ = some (.int .i64 0) := (blk_cell h9 0).trans rfl; have c91 : w5.cell? ⟨w.heap.size, 1, none⟩ = some (.int .i64 0) := (blk_cell h9 1).trans rfl; have z90 := blk_frozen h9 0; have z91 := blk_frozen h9 1; have q130 : w5.cell? ⟨w1.heap.size, 0, none⟩ = some (.int .i64 4) := (blk_cell (blk_below H13w.out hb5) 0).trans rfl; have q131 : w5.cell? ⟨w1.heap.size, 1, none⟩ = some (.int .i64 a) := (blk_cell (blk_below H13w.out hb5) 1).trans rfl; clear hb5 h9)
            gi_region
            all_goals
              gi_wp2
              refine bodyPost_ret (results_list (rs := [.tmp 8, .cell 9 31]) rfl (by simp) (.tmp (.cell w.heap.size 31 #[.int .i64 4, .int .i64 a] (0, 0) _ rfl (blk_put (cs := #[.int .i64 4, .int .i64 0]) (blk_put (cs := #[.int .i64 0, .int .i64 0]) H9z.out 0 _ rfl) 1 _ rfl) Try.underlying31 rfl (by kernel_rfl) .nil))) rfl ?_
              refine ⟨?_, ((below_drew (HBF.out.trans (H5.out.mono HBF.out.size))).setCell (Nat.le_refl _) _).setCell (Nat.le_refl _) _⟩
              rw [HRE.out, readEnd_bad (fun h => HC0.out (by have h2 := HCK.out.symm.trans h.2; injection h2))]
              rfl
        · have hie2 : (I != en) = true := bne_iff_ne.2 hie
          have HIE := Aside0.mk hie
          clear hie
          gi_wp2_with (first | (refine ⟨trivial, ?_⟩))
          gi_region
          all_goals
            gi_wp2
            refine bodyPost_ret (results_list (rs := [.tmp 8, .cell 9 31]) rfl (by simp) (.tmp (.cell w.heap.size 31 #[.int .i64 4, .int .i64 a] (0, 0) _ rfl (blk_put (cs := #[.int .i64 4, .int .i64 0]) (blk_put (cs := #[.int .i64 0, .int .i64 0]) H9w.out 0 _ rfl) 1 _ rfl) Try.underlying31 rfl (by kernel_rfl) .nil))) rfl ?_
            refine ⟨?_, ((below_drew HBF.out).setCell (Nat.le_refl _) _).setCell (Nat.le_refl _) _⟩
            rw [HRE.out, readEnd_bad (fun h => HIE.out h.1)]
            rfl

theorem rdata_Read.calls (A0 : Option Addr) (c0 : Nat) (l0 : List Int) (a1 a2 a3 : Int) (r1 : ByteArray) (r2 r3 : Int) (w : World) (hr0 : Kd.C (Kd.int .u8) w A0 l0.length l0) (hc0 : l0.length ≤ c0) (h : rdata_Read.f l0 a1 a2 a3 = some (r1, r2, r3)) :
    Calls Try.prog 57 #[.slice A0 l0.length c0, .int .i64 a1, .int .i64 a2, .int .i64 a3] w fun e w' => e = .returned (.tuple #[.string r1, .agg #[.int .i64 r2, .int .i64 r3]]) ∧ Below w.heap.size w w' := by
  unfold rdata_Read.f at h
  by_cases hc : bytesB l0 = true ∧ l0.length ≤ 70000 ∧ (Lit.int .i64 a1).wf = true
  · rw [if_pos hc] at h
    injection h with h
    have := callsIn_wide.1 (rdata_Read.in_ 7 (by omega) A0 c0 l0 a1 a2 a3 w hr0 hc0 hc.1 hc.2.1 (bounds_i64 hc.2.2))
    rw [h] at this
    exact this
  · rw [if_neg hc] at h; cases h
end Go.Proofs.Ytjjbhpbmfpodeaa.X
end
section
namespace Go.Proofs.Ytjjbhpbmfpodeaa.X
open Go.RowKit Go.Proofs.YtjjbhpbmfpodeaaW.PrintWords Go.Proofs.YtjjbhpbmfpodeaaW.PrintLast Go.Proofs.YtjjbhpbmfpodeaaW.PrintMore
attribute [local go_sem] max2_int min2_int max_two min_two max_three min_three max_four min_four   -- for this text's walks alone
set_option linter.unusedVariables false
set_option linter.unusedSimpArgs false

/-! ### ostiarylaw06_awake: function 56 -/
def ostiarylaw06_awake.f (k : Nat)  : Option (Bool) := (rdata_Read.f (([1, 97, 0, 0, 5, 192, 0] : List Int)) 3 4 15).bind fun bt104 => (if bt104.2.1 = 0 then (if bt104.1.toList = ([0, 5, 1, 97, 0] : List UInt8) then ((rdata_Check.f k 1 (⟨#[49, 50, 51, 52]⟩ : ByteArray)).bind fun t108 => (if t108 = 0 then ((rdata_Check.f k 1 (⟨#[49, 50, 51, 52, 53]⟩ : ByteArray)).bind fun t109 => (some (t109 == 4))) else (some false))) else (some false)) else (some false))
theorem ostiarylaw06_awake.mono : ∀ k, LeO (ostiarylaw06_awake.f k ) (ostiarylaw06_awake.f (k + 1) ) := by
  intro  k
  unfold ostiarylaw06_awake.f
  repeat' first
      | (with_reducible exact rdata_Check.mono _ _ _)
      | (with_reducible exact LeO.refl _)
      | (with_reducible exact LeO.none _)
      | (with_reducible refine LeO.ite ?_ ?_)
      | (with_reducible refine LeO.bind ?_ (fun _ => ?_))
      | exact rdata_Check.mono _ _ _
      | exact LeO.none _
      | refine LeO.ite ?_ ?_
      | refine LeO.bind ?_ (fun _ => ?_)
set_option maxHeartbeats 8000000 in
set_option maxRecDepth 100000 in
theorem ostiarylaw06_awake.calls (k : Nat)  (r : Bool) (w : World) (h : ostiarylaw06_awake.f k  = some r) :
    Calls Try.prog 56 #[] w fun e w' => e = .returned (.bool r) ∧ Below w.heap.size w w' := by
  have hu31 := Try.underlying31
  have HB := Aside0.mk (Below.refl w.heap.size w)
  have H : ((rdata_Read.f (([1, 97, 0, 0, 5, 192, 0] : List Int)) 3 4 15).bind fun bt104 => (if bt104.2.1 = 0 then (if bt104.1.toList = ([0, 5, 1, 97, 0] : List UInt8) then ((rdata_Check.f k 1 (⟨#[49, 50, 51, 52]⟩ : ByteArray)).bind fun t108 => (if t108 = 0 then ((rdata_Check.f k 1 (⟨#[49, 50, 51, 52, 53]⟩ : ByteArray)).bind fun t109 => (some (t109 == 4))) else (some false))) else (some false)) else (some false))) = some r := h
  clear h
  obtain ⟨y101, hy101⟩ : ∃ y_ : List Int, y_ = (([1, 97, 0, 0, 5, 192, 0] : List Int)) := ⟨_, rfl⟩
  replace H : ((rdata_Read.f y101 3 4 15).bind fun bt104 => (if bt104.2.1 = 0 then (if bt104.1.toList = ([0, 5, 1, 97, 0] : List UInt8) then ((rdata_Check.f k 1 (⟨#[49, 50, 51, 52]⟩ : ByteArray)).bind fun t108 => (if t108 = 0 then ((rdata_Check.f k 1 (⟨#[49, 50, 51, 52, 53]⟩ : ByteArray)).bind fun t109 => (some (t109 == 4))) else (some false))) else (some false)) else (some false))) = some r := by first | (rw [hy101]; with_reducible exact H) | (have H2_ := (Option.bind_some _ _).symm.trans H; rw [hy101]; with_reducible exact H2_) | (have H2_ := (Option.bind_some _ _).symm.trans H; with_reducible exact H2_) | with_reducible exact H | (rw [hy101]; exact H) | exact H
  have Ny101 := Aside0.mk hy101
  clear hy101
  replace H := Option.bind_eq_some_iff.mp H
  obtain ⟨⟨t104, t105, t106⟩, A10, H⟩ := H
  replace H : (if t105 = 0 then (if t104.toList = ([0, 5, 1, 97, 0] : List UInt8) then ((rdata_Check.f k 1 (⟨#[49, 50, 51, 52]⟩ : ByteArray)).bind fun t108 => (if t108 = 0 then ((rdata_Check.f k 1 (⟨#[49, 50, 51, 52, 53]⟩ : ByteArray)).bind fun t109 => (some (t109 == 4))) else (some false))) else (some false)) else (some false)) = some r := H
  have A1 := Aside0.mk A10
  clear A10
  by_cases c2 : t105 = 0
  · rw [if_pos c2] at H
    have c2b0 : (t105 == 0) = true := beq_iff_eq.mpr c2
    have c2b1 : (t105 != 0) = false := bne_eq_false_iff_eq.mpr c2
    clear c2
    by_cases c3 : t104.toList = ([0, 5, 1, 97, 0] : List UInt8)
    · rw [if_pos c3] at H
      have c3b0 : (t104.toList == ([0, 5, 1, 97, 0] : List UInt8)) = true := beq_iff_eq.mpr c3
      have c3b1 : (t104.toList != ([0, 5, 1, 97, 0] : List UInt8)) = false := bne_eq_false_iff_eq.mpr c3
      clear c3
      replace H := Option.bind_eq_some_iff.mp H
      obtain ⟨t108, A40, H⟩ := H
      replace H : (if t108 = 0 then ((rdata_Check.f k 1 (⟨#[49, 50, 51, 52, 53]⟩ : ByteArray)).bind fun t109 => (some (t109 == 4))) else (some false)) = some r := H
      have A4 := Aside0.mk A40
      clear A40
      by_cases c5 : t108 = 0
      · rw [if_pos c5] at H
        have c5b0 : (t108 == 0) = true := beq_iff_eq.mpr c5
        have c5b1 : (t108 != 0) = false := bne_eq_false_iff_eq.mpr c5
        clear c5
        replace H := Option.bind_eq_some_iff.mp H
        obtain ⟨t109, A60, H⟩ := H
        replace H : (some (t109 == 4)) = some r := H
        have A6 := Aside0.mk A60
        clear A60
        obtain rfl := Option.some.inj H
        go_enter Try.func56, Try.ntmps56
        go_wp2_with (first | ((with_reducible refine gate_dst (N := 4) rfl ?_); refine Kd.R_lit (Kd.int .u8) _ 5 ?hg (N := 4) ?hd (xs := ([1, 97, 0, 0, 5, 192, 0] : List Int)) (inner := [.int .u8 1, .int .u8 97, .int .u8 0, .int .u8 0, .int .u8 5, .int .u8 192, .int .u8 0]) (ok := fun _ => True) (okp := fun _ => True) ?hr ?hp (fun _ hk => hk) trivial (Below.refl _ _) (Nat.le_refl _) (by simp) ?_; (case hd => rfl); (case hg => rfl); (case hr => first | (go_simp; done) | (go_simp; rfl)); (case hp => exact (Reps.one (show Kd.M (Kd.int .u8) _ _ _ 1 [.int .u8 1] from rfl) (Reps.one (show Kd.M (Kd.int .u8) _ _ _ 97 [.int .u8 97] from rfl) (Reps.one (show Kd.M (Kd.int .u8) _ _ _ 0 [.int .u8 0] from rfl) (Reps.one (show Kd.M (Kd.int .u8) _ _ _ 0 [.int .u8 0] from rfl) (Reps.one (show Kd.M (Kd.int .u8) _ _ _ 5 [.int .u8 5] from rfl) (Reps.one (show Kd.M (Kd.int .u8) _ _ _ 192 [.int .u8 192] from rfl) (Reps.one (show Kd.M (Kd.int .u8) _ _ _ 0 [.int .u8 0] from rfl) (Reps.none _ _))))))))); intro v102 w7 ho8 hb hg_ hnew_; clear hg_ hnew_; (first | rw [← Ny101.out] at ho8 | (simp only [Int.reduceToNat] at ho8; rw [← Ny101.out] at ho8)); have n0_ := Aside0.mk (Kd.R_lower ho8 (below_size (by repeat (first | (with_reducible first | exact HB.out | apply below_alloc | apply pw_below_drewN | apply below_drew1) | exact HB.out)))); have n1_ := Aside0.mk (below_step (by repeat (first | (with_reducible first | exact HB.out | apply below_alloc | apply pw_below_drewN | apply below_drew1) | exact HB.out)) hb); clear HB; have HO103 := n0_; have HB := n1_; clear n0_ n1_; clear hb ho8; obtain ⟨Ao9, co9, eo9⟩ := Kd.R_slice HO103.out; subst eo9) | ((with_reducible refine gate_callee (f := 57) rfl ?_); refine goesL_ (some 5) rfl rfl Try.func57 (by kernel_rfl) rfl #[.slice Ao9 y101.length co9, .int .i64 3, .int .i64 4, .int .i64 15] rfl (by (try simp only [List.map_toArray, List.map_cons, List.map_nil]); first | done | rfl | (simp only [List.length_drop, List.length_take]; rfl)) ?_; (with_reducible refine (rdata_Read.calls _ _ y101 3 4 15 t104 t105 t106 _ ?side1 ?side2 A1.out).mono ?_); (case side1 => repeat (first | exact (Kd.R_reads' HO103.out).2.2 | (with_reducible refine Kd.C_alloc ?_ _) | (with_reducible refine Kd.C_drewN ?_ _) | (with_reducible refine Kd.C_drew ?_))); (case side2 => exact (Kd.R_reads' HO103.out).2.1); rintro e w10 ⟨rfl, hb⟩; refine ⟨_, rfl, ?_⟩; have n0_ := Aside0.mk (Kd.R_below (by (with_reducible repeat (first | apply Kd.R_alloc | apply Kd.R_drewN | apply Kd.R_drew)); exact HO103.out) hb); have n1_ := Aside0.mk (below_step (by repeat (first | (with_reducible first | exact HB.out | apply below_alloc | apply pw_below_drewN | apply below_drew1) | exact HB.out)) hb); clear HO103; clear HB; have HO103 := n0_; have HB := n1_; clear n0_ n1_; (try clear hb); (try clear hb2); (try clear hk); (try clear hi)) | ((with_reducible refine gate_dst (N := 2) rfl ?_); refine box_event ?hg (N := 2) ?hd (cs := #[.int .i64 0, .int .i64 0]) (t := 31) ?hr ?_; (case hd => rfl); (case hg => rfl); (case hr => first | (go_simp; done) | (go_simp; rfl)); intro gb107 hg w11 hbox hb; have n0_ := Aside0.mk (Kd.R_below (by (with_reducible repeat (first | apply Kd.R_alloc | apply Kd.R_drewN | apply Kd.R_drew)); exact HO103.out) hb); have n1_ := Aside0.mk (below_step (by repeat (first | (with_reducible first | exact HB.out | apply below_alloc | apply pw_below_drewN | apply below_drew1) | exact HB.out)) hb); have n2_ := Aside0.mk (hbox); have n3_ := Aside0.mk ((by rw [hg]; exact (below_size (by repeat (first | (with_reducible first | exact HB.out | apply below_alloc | apply pw_below_drewN | apply below_drew1) | exact HB.out))) : w.heap.size ≤ gb107)); have n4_ := Aside0.mk ((by rw [hg]; exact (below_size (by repeat (first | (with_reducible first | exact HB.out | apply below_alloc | apply pw_below_drewN | apply below_drew1) | exact HB.out))) : w.heap.size ≤ gb107)); clear HO103; clear HB; have HO103 := n0_; have HB := n1_; have BK107 := n2_; have GW107 := n3_; have GE107 := n4_; clear n0_ n1_ n2_ n3_ n4_; clear hb hbox hg; have hcz12_0 : w11.cell? ⟨gb107, 0, none⟩ = some (.int .i64 0) := (blk_cell BK107.out 0).trans rfl; have hcz12_1 : w11.cell? ⟨gb107, 1, none⟩ = some (.int .i64 0) := (blk_cell BK107.out 1).trans rfl; have hfz12_0 := blk_frozen BK107.out 0; have hfz12_1 := blk_frozen BK107.out 1) | (go_at_call 58; (with_reducible refine (rdata_Check.calls k 1 (⟨#[49, 50, 51, 52]⟩ : ByteArray) t108 _ A4.out).mono ?_); rintro e w13 ⟨rfl, hb⟩; have n0_ := Aside0.mk (Kd.R_below (by (with_reducible repeat (first | apply Kd.R_alloc | apply Kd.R_drewN | apply Kd.R_drew)); exact (Kd.R_mono (Kd.R_far (p := ⟨gb107, 1, none⟩) (Kd.R_far (p := ⟨gb107, 0, none⟩) (Kd.R_types HO103.out BK107.out (by decide)) (fun _ hk => hk.2) (.int .i64 t105)) (fun _ hk => hk.2) (.int .i64 t106)) (fun _ h_ => h_.1))) hb); have n1_ := Aside0.mk (blk_below (g := gb107) (o := .cells #[.int .i64 t105, .int .i64 t106] 31 (0, 0)) (by (with_reducible repeat (first | refine blk_drewN ?_ _ | refine blk_drew ?_ | refine blk_alloc ?_ _)); refine blk_put (cs := #[.int .i64 t105, .int .i64 0]) ?_ 1 _ rfl; (with_reducible repeat (first | refine blk_drewN ?_ _ | refine blk_drew ?_ | refine blk_alloc ?_ _)); refine blk_put (cs := #[.int .i64 0, .int .i64 0]) ?_ 0 _ rfl; (with_reducible repeat (first | refine blk_drewN ?_ _ | refine blk_drew ?_ | refine blk_alloc ?_ _)); exact BK107.out) hb); have n2_ := Aside0.mk (below_step (by repeat (first | (with_reducible first | exact HB.out | apply below_alloc | apply pw_below_drewN | apply below_drew1 | refine below_set ?_ GE107.out) | exact HB.out)) hb); clear HO103; clear BK107; clear HB; have HO103 := n0_; have BK107 := n1_; have HB := n2_; clear n0_ n1_ n2_; (try clear hb); (try clear hb2); (try clear hk); (try clear hi)) | (go_at_call 58; (with_reducible refine (rdata_Check.calls k 1 (⟨#[49, 50, 51, 52, 53]⟩ : ByteArray) t109 _ A6.out).mono ?_); rintro e w14 ⟨rfl, hb⟩; have n0_ := Aside0.mk (Kd.R_below (by (with_reducible repeat (first | apply Kd.R_alloc | apply Kd.R_drewN | apply Kd.R_drew)); exact HO103.out) hb); have n1_ := Aside0.mk (blk_below (g := gb107) (o := .cells #[.int .i64 t105, .int .i64 t106] 31 (0, 0)) (by (with_reducible repeat (first | refine blk_drewN ?_ _ | refine blk_drew ?_ | refine blk_alloc ?_ _)); exact BK107.out) hb); have n2_ := Aside0.mk (below_step (by repeat (first | (with_reducible first | exact HB.out | apply below_alloc | apply pw_below_drewN | apply below_drew1 | refine below_set ?_ GE107.out) | exact HB.out)) hb); clear HO103; clear BK107; clear HB; have HO103 := n0_; have BK107 := n1_; have HB := n2_; clear n0_ n1_ n2_; (try clear hb); (try clear hb2); (try clear hk); (try clear hi)))
        go_ret
        exact ⟨by first | rfl | (simp [errW_none, errW_some] <;> rfl) | (simp [*, errW_none, errW_some] <;> rfl), by repeat (first | (with_reducible first | exact HB.out | apply below_alloc | apply pw_below_drewN | apply below_drew1 | refine below_set ?_ GE107.out) | exact HB.out)⟩
      · rw [if_neg c5] at H
        have c5b0 : (t108 == 0) = false := beq_eq_false_iff_ne.mpr c5
        have c5b1 : (t108 != 0) = true := bne_iff_ne.mpr c5
        obtain rfl := Option.some.inj H
        go_enter Try.func56, Try.ntmps56
        go_wp2_with (first | ((with_reducible refine gate_dst (N := 4) rfl ?_); refine Kd.R_lit (Kd.int .u8) _ 5 ?hg (N := 4) ?hd (xs := ([1, 97, 0, 0, 5, 192, 0] : List Int)) (inner := [.int .u8 1, .int .u8 97, .int .u8 0, .int .u8 0, .int .u8 5, .int .u8 192, .int .u8 0]) (ok := fun _ => True) (okp := fun _ => True) ?hr ?hp (fun _ hk => hk) trivial (Below.refl _ _) (Nat.le_refl _) (by simp) ?_; (case hd => rfl); (case hg => rfl); (case hr => first | (go_simp; done) | (go_simp; rfl)); (case hp => exact (Reps.one (show Kd.M (Kd.int .u8) _ _ _ 1 [.int .u8 1] from rfl) (Reps.one (show Kd.M (Kd.int .u8) _ _ _ 97 [.int .u8 97] from rfl) (Reps.one (show Kd.M (Kd.int .u8) _ _ _ 0 [.int .u8 0] from rfl) (Reps.one (show Kd.M (Kd.int .u8) _ _ _ 0 [.int .u8 0] from rfl) (Reps.one (show Kd.M (Kd.int .u8) _ _ _ 5 [.int .u8 5] from rfl) (Reps.one (show Kd.M (Kd.int .u8) _ _ _ 192 [.int .u8 192] from rfl) (Reps.one (show Kd.M (Kd.int .u8) _ _ _ 0 [.int .u8 0] from rfl) (Reps.none _ _))))))))); intro v102 w15 ho16 hb hg_ hnew_; clear hg_ hnew_; (first | rw [← Ny101.out] at ho16 | (simp only [Int.reduceToNat] at ho16; rw [← Ny101.out] at ho16)); have n0_ := Aside0.mk (Kd.R_lower ho16 (below_size (by repeat (first | (with_reducible first | exact HB.out | apply below_alloc | apply pw_below_drewN | apply below_drew1) | exact HB.out)))); have n1_ := Aside0.mk (below_step (by repeat (first | (with_reducible first | exact HB.out | apply below_alloc | apply pw_below_drewN | apply below_drew1) | exact HB.out)) hb); clear HB; have HO103 := n0_; have HB := n1_; clear n0_ n1_; clear hb ho16; obtain ⟨Ao17, co17, eo17⟩ := Kd.R_slice HO103.out; subst eo17) | ((with_reducible refine gate_callee (f := 57) rfl ?_); refine goesL_ (some 5) rfl rfl Try.func57 (by kernel_rfl) rfl #[.slice Ao17 y101.length co17, .int .i64 3, .int .i64 4, .int .i64 15] rfl (by (try simp only [List.map_toArray, List.map_cons, List.map_nil]); first | done | rfl | (simp only [List.length_drop, List.length_take]; rfl)) ?_; (with_reducible refine (rdata_Read.calls _ _ y101 3 4 15 t104 t105 t106 _ ?side1 ?side2 A1.out).mono ?_); (case side1 => repeat (first | exact (Kd.R_reads' HO103.out).2.2 | (with_reducible refine Kd.C_alloc ?_ _) | (with_reducible refine Kd.C_drewN ?_ _) | (with_reducible refine Kd.C_drew ?_))); (case side2 => exact (Kd.R_reads' HO103.out).2.1); rintro e w18 ⟨rfl, hb⟩; refine ⟨_, rfl, ?_⟩; have n0_ := Aside0.mk (Kd.R_below (by (with_reducible repeat (first | apply Kd.R_alloc | apply Kd.R_drewN | apply Kd.R_drew)); exact HO103.out) hb); have n1_ := Aside0.mk (below_step (by repeat (first | (with_reducible first | exact HB.out | apply below_alloc | apply pw_below_drewN | apply below_drew1) | exact HB.out)) hb); clear HO103; clear HB; have HO103 := n0_; have HB := n1_; clear n0_ n1_; (try clear hb); (try clear hb2); (try clear hk); (try clear hi)) | ((with_reducible refine gate_dst (N := 2) rfl ?_); refine box_event ?hg (N := 2) ?hd (cs := #[.int .i64 0, .int .i64 0]) (t := 31) ?hr ?_; (case hd => rfl); (case hg => rfl); (case hr => first | (go_simp; done) | (go_simp; rfl)); intro gb107 hg w19 hbox hb; have n0_ := Aside0.mk (Kd.R_below (by (with_reducible repeat (first | apply Kd.R_alloc | apply Kd.R_drewN | apply Kd.R_drew)); exact HO103.out) hb); have n1_ := Aside0.mk (below_step (by repeat (first | (with_reducible first | exact HB.out | apply below_alloc | apply pw_below_drewN | apply below_drew1) | exact HB.out)) hb); have n2_ := Aside0.mk (hbox); have n3_ := Aside0.mk ((by rw [hg]; exact (below_size (by repeat (first | (with_reducible first | exact HB.out | apply below_alloc | apply pw_below_drewN | apply below_drew1) | exact HB.out))) : w.heap.size ≤ gb107)); have n4_ := Aside0.mk ((by rw [hg]; exact (below_size (by repeat (first | (with_reducible first | exact HB.out | apply below_alloc | apply pw_below_drewN | apply below_drew1) | exact HB.out))) : w.heap.size ≤ gb107)); clear HO103; clear HB; have HO103 := n0_; have HB := n1_; have BK107 := n2_; have GW107 := n3_; have GE107 := n4_; clear n0_ n1_ n2_ n3_ n4_; clear hb hbox hg; have hcz20_0 : w19.cell? ⟨gb107, 0, none⟩ = some (.int .i64 0) := (blk_cell BK107.out 0).trans rfl; have hcz20_1 : w19.cell? ⟨gb107, 1, none⟩ = some (.int .i64 0) := (blk_cell BK107.out 1).trans rfl; have hfz20_0 := blk_frozen BK107.out 0; have hfz20_1 := blk_frozen BK107.out 1) | (go_at_call 58; (with_reducible refine (rdata_Check.calls k 1 (⟨#[49, 50, 51, 52]⟩ : ByteArray) t108 _ A4.out).mono ?_); rintro e w21 ⟨rfl, hb⟩; have n0_ := Aside0.mk (Kd.R_below (by (with_reducible repeat (first | apply Kd.R_alloc | apply Kd.R_drewN | apply Kd.R_drew)); exact (Kd.R_mono (Kd.R_far (p := ⟨gb107, 1, none⟩) (Kd.R_far (p := ⟨gb107, 0, none⟩) (Kd.R_types HO103.out BK107.out (by decide)) (fun _ hk => hk.2) (.int .i64 t105)) (fun _ hk => hk.2) (.int .i64 t106)) (fun _ h_ => h_.1))) hb); have n1_ := Aside0.mk (blk_below (g := gb107) (o := .cells #[.int .i64 t105, .int .i64 t106] 31 (0, 0)) (by (with_reducible repeat (first | refine blk_drewN ?_ _ | refine blk_drew ?_ | refine blk_alloc ?_ _)); refine blk_put (cs := #[.int .i64 t105, .int .i64 0]) ?_ 1 _ rfl; (with_reducible repeat (first | refine blk_drewN ?_ _ | refine blk_drew ?_ | refine blk_alloc ?_ _)); refine blk_put (cs := #[.int .i64 0, .int .i64 0]) ?_ 0 _ rfl; (with_reducible repeat (first | refine blk_drewN ?_ _ | refine blk_drew ?_ | refine blk_alloc ?_ _)); exact BK107.out) hb); have n2_ := Aside0.mk (below_step (by repeat (first | (with_reducible first | exact HB.out | apply below_alloc | apply pw_below_drewN | apply below_drew1 | refine below_set ?_ GE107.out) | exact HB.out)) hb); clear HO103; clear BK107; clear HB; have HO103 := n0_; have BK107 := n1_; have HB := n2_; clear n0_ n1_ n2_; (try clear hb); (try clear hb2); (try clear hk); (try clear hi)))
        go_ret
        exact ⟨by first | rfl | (simp [errW_none, errW_some] <;> rfl) | (simp [*, errW_none, errW_some] <;> rfl), by repeat (first | (with_reducible first | exact HB.out | apply below_alloc | apply pw_below_drewN | apply below_drew1 | refine below_set ?_ GE107.out) | exact HB.out)⟩
    · rw [if_neg c3] at H
      have c3b0 : (t104.toList == ([0, 5, 1, 97, 0] : List UInt8)) = false := beq_eq_false_iff_ne.mpr c3
      have c3b1 : (t104.toList != ([0, 5, 1, 97, 0] : List UInt8)) = true := bne_iff_ne.mpr c3
      obtain rfl := Option.some.inj H
      go_enter Try.func56, Try.ntmps56
      go_wp2_with (first | ((with_reducible refine gate_dst (N := 4) rfl ?_); refine Kd.R_lit (Kd.int .u8) _ 5 ?hg (N := 4) ?hd (xs := ([1, 97, 0, 0, 5, 192, 0] : List Int)) (inner := [.int .u8 1, .int .u8 97, .int .u8 0, .int .u8 0, .int .u8 5, .int .u8 192, .int .u8 0]) (ok := fun _ => True) (okp := fun _ => True) ?hr ?hp (fun _ hk => hk) trivial (Below.refl _ _) (Nat.le_refl _) (by simp) ?_; (case hd => rfl); (case hg => rfl); (case hr => first | (go_simp; done) | (go_simp; rfl)); (case hp => exact (Reps.one (show Kd.M (Kd.int .u8) _ _ _ 1 [.int .u8 1] from rfl) (Reps.one (show Kd.M (Kd.int .u8) _ _ _ 97 [.int .u8 97] from rfl) (Reps.one (show Kd.M (Kd.int .u8) _ _ _ 0 [.int .u8 0] from rfl) (Reps.one (show Kd.M (Kd.int .u8) _ _ _ 0 [.int .u8 0] from rfl) (Reps.one (show Kd.M (Kd.int .u8) _ _ _ 5 [.int .u8 5] from rfl) (Reps.one (show Kd.M (Kd.int .u8) _ _ _ 192 [.int .u8 192] from rfl) (Reps.one (show Kd.M (Kd.int .u8) _ _ _ 0 [.int .u8 0] from rfl) (Reps.none _ _))))))))); intro v102 w22 ho23 hb hg_ hnew_; clear hg_ hnew_; (first | rw [← Ny101.out] at ho23 | (simp only [Int.reduceToNat] at ho23; rw [← Ny101.out] at ho23)); have n0_ := Aside0.mk (Kd.R_lower ho23 (below_size (by repeat (first | (with_reducible first | exact HB.out | apply below_alloc | apply pw_below_drewN | apply below_drew1) | exact HB.out)))); have n1_ := Aside0.mk (below_step (by repeat (first | (with_reducible first | exact HB.out | apply below_alloc | apply pw_below_drewN | apply below_drew1) | exact HB.out)) hb); clear HB; have HO103 := n0_; have HB := n1_; clear n0_ n1_; clear hb ho23; obtain ⟨Ao24, co24, eo24⟩ := Kd.R_slice HO103.out; subst eo24) | ((with_reducible refine gate_callee (f := 57) rfl ?_); refine goesL_ (some 5) rfl rfl Try.func57 (by kernel_rfl) rfl #[.slice Ao24 y101.length co24, .int .i64 3, .int .i64 4, .int .i64 15] rfl (by (try simp only [List.map_toArray, List.map_cons, List.map_nil]); first | done | rfl | (simp only [List.length_drop, List.length_take]; rfl)) ?_; (with_reducible refine (rdata_Read.calls _ _ y101 3 4 15 t104 t105 t106 _ ?side1 ?side2 A1.out).mono ?_); (case side1 => repeat (first | exact (Kd.R_reads' HO103.out).2.2 | (with_reducible refine Kd.C_alloc ?_ _) | (with_reducible refine Kd.C_drewN ?_ _) | (with_reducible refine Kd.C_drew ?_))); (case side2 => exact (Kd.R_reads' HO103.out).2.1); rintro e w25 ⟨rfl, hb⟩; refine ⟨_, rfl, ?_⟩; have n0_ := Aside0.mk (Kd.R_below (by (with_reducible repeat (first | apply Kd.R_alloc | apply Kd.R_drewN | apply Kd.R_drew)); exact HO103.out) hb); have n1_ := Aside0.mk (below_step (by repeat (first | (with_reducible first | exact HB.out | apply below_alloc | apply pw_below_drewN | apply below_drew1) | exact HB.out)) hb); clear HO103; clear HB; have HO103 := n0_; have HB := n1_; clear n0_ n1_; (try clear hb); (try clear hb2); (try clear hk); (try clear hi)) | ((with_reducible refine gate_dst (N := 2) rfl ?_); refine box_event ?hg (N := 2) ?hd (cs := #[.int .i64 0, .int .i64 0]) (t := 31) ?hr ?_; (case hd => rfl); (case hg => rfl); (case hr => first | (go_simp; done) | (go_simp; rfl)); intro gb107 hg w26 hbox hb; have n0_ := Aside0.mk (Kd.R_below (by (with_reducible repeat (first | apply Kd.R_alloc | apply Kd.R_drewN | apply Kd.R_drew)); exact HO103.out) hb); have n1_ := Aside0.mk (below_step (by repeat (first | (with_reducible first | exact HB.out | apply below_alloc | apply pw_below_drewN | apply below_drew1) | exact HB.out)) hb); have n2_ := Aside0.mk (hbox); have n3_ := Aside0.mk ((by rw [hg]; exact (below_size (by repeat (first | (with_reducible first | exact HB.out | apply below_alloc | apply pw_below_drewN | apply below_drew1) | exact HB.out))) : w.heap.size ≤ gb107)); have n4_ := Aside0.mk ((by rw [hg]; exact (below_size (by repeat (first | (with_reducible first | exact HB.out | apply below_alloc | apply pw_below_drewN | apply below_drew1) | exact HB.out))) : w.heap.size ≤ gb107)); clear HO103; clear HB; have HO103 := n0_; have HB := n1_; have BK107 := n2_; have GW107 := n3_; have GE107 := n4_; clear n0_ n1_ n2_ n3_ n4_; clear hb hbox hg; have hcz27_0 : w26.cell? ⟨gb107, 0, none⟩ = some (.int .i64 0) := (blk_cell BK107.out 0).trans rfl; have hcz27_1 : w26.cell? ⟨gb107, 1, none⟩ = some (.int .i64 0) := (blk_cell BK107.out 1).trans rfl; have hfz27_0 := blk_frozen BK107.out 0; have hfz27_1 := blk_frozen BK107.out 1))
      go_ret
      exact ⟨by first | rfl | (simp [errW_none, errW_some] <;> rfl) | (simp [*, errW_none, errW_some] <;> rfl), by repeat (first | (with_reducible first | exact HB.out | apply below_alloc | apply pw_below_drewN | apply below_drew1 | refine below_set ?_ GE107.out) | exact HB.out)⟩
  · rw [if_neg c2] at H
    have c2b0 : (t105 == 0) = false := beq_eq_false_iff_ne.mpr c2
    have c2b1 : (t105 != 0) = true := bne_iff_ne.mpr c2
    obtain rfl := Option.some.inj H
    go_enter Try.func56, Try.ntmps56
    go_wp2_with (first | ((with_reducible refine gate_dst (N := 4) rfl ?_); refine Kd.R_lit (Kd.int .u8) _ 5 ?hg (N := 4) ?hd (xs := ([1, 97, 0, 0, 5, 192, 0] : List Int)) (inner := [.int .u8 1, .int .u8 97, .int .u8 0, .int .u8 0, .int .u8 5, .int .u8 192, .int .u8 0]) (ok := fun _ => True) (okp := fun _ => True) ?hr ?hp (fun _ hk => hk) trivial (Below.refl _ _) (Nat.le_refl _) (by simp) ?_; (case hd => rfl); (case hg => rfl); (case hr => first | (go_simp; done) | (go_simp; rfl)); (case hp => exact (Reps.one (show Kd.M (Kd.int .u8) _ _ _ 1 [.int .u8 1] from rfl) (Reps.one (show Kd.M (Kd.int .u8) _ _ _ 97 [.int .u8 97] from rfl) (Reps.one (show Kd.M (Kd.int .u8) _ _ _ 0 [.int .u8 0] from rfl) (Reps.one (show Kd.M (Kd.int .u8) _ _ _ 0 [.int .u8 0] from rfl) (Reps.one (show Kd.M (Kd.int .u8) _ _ _ 5 [.int .u8 5] from rfl) (Reps.one (show Kd.M (Kd.int .u8) _ _ _ 192 [.int .u8 192] from rfl) (Reps.one (show Kd.M (Kd.int .u8) _ _ _ 0 [.int .u8 0] from rfl) (Reps.none _ _))))))))); intro v102 w28 ho29 hb hg_ hnew_; clear hg_ hnew_; (first | rw [← Ny101.out] at ho29 | (simp only [Int.reduceToNat] at ho29; rw [← Ny101.out] at ho29)); have n0_ := Aside0.mk (Kd.R_lower ho29 (below_size (by repeat (first | (with_reducible first | exact HB.out | apply below_alloc | apply pw_below_drewN | apply below_drew1) | exact HB.out)))); have n1_ := Aside0.mk (below_step (by repeat (first | (with_reducible first | exact HB.out | apply below_alloc | apply pw_below_drewN | apply below_drew1) | exact HB.out)) hb); clear HB; have HO103 := n0_; have HB := n1_; clear n0_ n1_; clear hb ho29; obtain ⟨Ao30, co30, eo30⟩ := Kd.R_slice HO103.out; subst eo30) | ((with_reducible refine gate_callee (f := 57) rfl ?_); refine goesL_ (some 5) rfl rfl Try.func57 (by kernel_rfl) rfl #[.slice Ao30 y101.length co30, .int .i64 3, .int .i64 4, .int .i64 15] rfl (by (try simp only [List.map_toArray, List.map_cons, List.map_nil]); first | done | rfl | (simp only [List.length_drop, List.length_take]; rfl)) ?_; (with_reducible refine (rdata_Read.calls _ _ y101 3 4 15 t104 t105 t106 _ ?side1 ?side2 A1.out).mono ?_); (case side1 => repeat (first | exact (Kd.R_reads' HO103.out).2.2 | (with_reducible refine Kd.C_alloc ?_ _) | (with_reducible refine Kd.C_drewN ?_ _) | (with_reducible refine Kd.C_drew ?_))); (case side2 => exact (Kd.R_reads' HO103.out).2.1); rintro e w31 ⟨rfl, hb⟩; refine ⟨_, rfl, ?_⟩; have n0_ := Aside0.mk (Kd.R_below (by (with_reducible repeat (first | apply Kd.R_alloc | apply Kd.R_drewN | apply Kd.R_drew)); exact HO103.out) hb); have n1_ := Aside0.mk (below_step (by repeat (first | (with_reducible first | exact HB.out | apply below_alloc | apply pw_below_drewN | apply below_drew1) | exact HB.out)) hb); clear HO103; clear HB; have HO103 := n0_; have HB := n1_; clear n0_ n1_; (try clear hb); (try clear hb2); (try clear hk); (try clear hi)) | ((with_reducible refine gate_dst (N := 2) rfl ?_); refine box_event ?hg (N := 2) ?hd (cs := #[.int .i64 0, .int .i64 0]) (t := 31) ?hr ?_; (case hd => rfl); (case hg => rfl); (case hr => first | (go_simp; done) | (go_simp; rfl)); intro gb107 hg w32 hbox hb; have n0_ := Aside0.mk (Kd.R_below (by (with_reducible repeat (first | apply Kd.R_alloc | apply Kd.R_drewN | apply Kd.R_drew)); exact HO103.out) hb); have n1_ := Aside0.mk (below_step (by repeat (first | (with_reducible first | exact HB.out | apply below_alloc | apply pw_below_drewN | apply below_drew1) | exact HB.out)) hb); have n2_ := Aside0.mk (hbox); have n3_ := Aside0.mk ((by rw [hg]; exact (below_size (by repeat (first | (with_reducible first | exact HB.out | apply below_alloc | apply pw_below_drewN | apply below_drew1) | exact HB.out))) : w.heap.size ≤ gb107)); have n4_ := Aside0.mk ((by rw [hg]; exact (below_size (by repeat (first | (with_reducible first | exact HB.out | apply below_alloc | apply pw_below_drewN | apply below_drew1) | exact HB.out))) : w.heap.size ≤ gb107)); clear HO103; clear HB; have HO103 := n0_; have HB := n1_; have BK107 := n2_; have GW107 := n3_; have GE107 := n4_; clear n0_ n1_ n2_ n3_ n4_; clear hb hbox hg; have hcz33_0 : w32.cell? ⟨gb107, 0, none⟩ = some (.int .i64 0) := (blk_cell BK107.out 0).trans rfl; have hcz33_1 : w32.cell? ⟨gb107, 1, none⟩ = some (.int .i64 0) := (blk_cell BK107.out 1).trans rfl; have hfz33_0 := blk_frozen BK107.out 0; have hfz33_1 := blk_frozen BK107.out 1))
    go_ret
    exact ⟨by first | rfl | (simp [errW_none, errW_some] <;> rfl) | (simp [*, errW_none, errW_some] <;> rfl), by repeat (first | (with_reducible first | exact HB.out | apply below_alloc | apply pw_below_drewN | apply below_drew1 | refine below_set ?_ GE107.out) | exact HB.out)⟩

end Go.Proofs.Ytjjbhpbmfpodeaa.X
end
section
namespace Go.Proofs.Ytjjbhpbmfpodeaa.X
open Go.RowKit Go.Proofs.YtjjbhpbmfpodeaaW.PrintWords Go.Proofs.YtjjbhpbmfpodeaaW.PrintLast Go.Proofs.YtjjbhpbmfpodeaaW.PrintMore
attribute [local go_sem] max2_int min2_int max_two min_two max_three min_three max_four min_four   -- for this text's walks alone
set_option linter.unusedVariables false
set_option linter.unusedSimpArgs false

/-! ### rdata_Target: function 59 -/
def rdata_Target.f (k : Nat) (a0 : Int) (a1 : ByteArray) : Option (ByteArray × Bool) := if a0 = 2 then ((rdata_Check.f k a0 a1).bind fun t101 => (if t101 = 0 then ((rdata_split.f a0 a1).bind fun bt102 => (if 0 ≤ (wrap64 ((bt102.1.length : Int) - 1)) then (if (wrap64 ((bt102.1.length : Int) - 1)) < (bt102.1.length : Int) then (some ((rd_T124 bt102.1 (wrap64 ((bt102.1.length : Int) - 1))).f0, true)) else (none)) else (none))) else (some ((⟨#[]⟩ : ByteArray), false)))) else (if a0 = 5 then ((rdata_Check.f k a0 a1).bind fun t107 => (if t107 = 0 then ((rdata_split.f a0 a1).bind fun bt108 => (if 0 ≤ (wrap64 ((bt108.1.length : Int) - 1)) then (if (wrap64 ((bt108.1.length : Int) - 1)) < (bt108.1.length : Int) then (some ((rd_T124 bt108.1 (wrap64 ((bt108.1.length : Int) - 1))).f0, true)) else (none)) else (none))) else (some ((⟨#[]⟩ : ByteArray), false)))) else (if a0 = 12 then ((rdata_Check.f k a0 a1).bind fun t113 => (if t113 = 0 then ((rdata_split.f a0 a1).bind fun bt114 => (if 0 ≤ (wrap64 ((bt114.1.length : Int) - 1)) then (if (wrap64 ((bt114.1.length : Int) - 1)) < (bt114.1.length : Int) then (some ((rd_T124 bt114.1 (wrap64 ((bt114.1.length : Int) - 1))).f0, true)) else (none)) else (none))) else (some ((⟨#[]⟩ : ByteArray), false)))) else (if a0 = 15 then ((rdata_Check.f k a0 a1).bind fun t119 => (if t119 = 0 then ((rdata_split.f a0 a1).bind fun bt120 => (if 0 ≤ (wrap64 ((bt120.1.length : Int) - 1)) then (if (wrap64 ((bt120.1.length : Int) - 1)) < (bt120.1.length : Int) then (some ((rd_T124 bt120.1 (wrap64 ((bt120.1.length : Int) - 1))).f0, true)) else (none)) else (none))) else (some ((⟨#[]⟩ : ByteArray), false)))) else (some ((⟨#[]⟩ : ByteArray), false)))))
theorem rdata_Target.mono : ∀ a0 a1 k, LeO (rdata_Target.f k a0 a1) (rdata_Target.f (k + 1) a0 a1) := by
  intro a0 a1 k
  unfold rdata_Target.f
  repeat' first
      | (with_reducible exact rdata_Check.mono _ _ _)
      | (with_reducible exact LeO.refl _)
      | (with_reducible exact LeO.none _)
      | (with_reducible refine LeO.ite ?_ ?_)
      | (with_reducible refine LeO.bind ?_ (fun _ => ?_))
      | exact rdata_Check.mono _ _ _
      | exact LeO.none _
      | refine LeO.ite ?_ ?_
      | refine LeO.bind ?_ (fun _ => ?_)
set_option maxHeartbeats 8000000 in
set_option maxRecDepth 100000 in
theorem rdata_Target.calls (k : Nat) (a0 : Int) (a1 : ByteArray) (r1 : ByteArray) (r2 : Bool) (w : World) (h : rdata_Target.f k a0 a1 = some (r1, r2)) :
    Calls Try.prog 59 #[.int .i64 a0, .string a1] w fun e w' => e = .returned (.tuple #[.string r1, .bool r2]) ∧ Below w.heap.size w w' := by
  have HB := Aside0.mk (Below.refl w.heap.size w)
  have H : (if a0 = 2 then ((rdata_Check.f k a0 a1).bind fun t101 => (if t101 = 0 then ((rdata_split.f a0 a1).bind fun bt102 => (if 0 ≤ (wrap64 ((bt102.1.length : Int) - 1)) then (if (wrap64 ((bt102.1.length : Int) - 1)) < (bt102.1.length : Int) then (some ((rd_T124 bt102.1 (wrap64 ((bt102.1.length : Int) - 1))).f0, true)) else (none)) else (none))) else (some ((⟨#[]⟩ : ByteArray), false)))) else (if a0 = 5 then ((rdata_Check.f k a0 a1).bind fun t107 => (if t107 = 0 then ((rdata_split.f a0 a1).bind fun bt108 => (if 0 ≤ (wrap64 ((bt108.1.length : Int) - 1)) then (if (wrap64 ((bt108.1.length : Int) - 1)) < (bt108.1.length : Int) then (some ((rd_T124 bt108.1 (wrap64 ((bt108.1.length : Int) - 1))).f0, true)) else (none)) else (none))) else (some ((⟨#[]⟩ : ByteArray), false)))) else (if a0 = 12 then ((rdata_Check.f k a0 a1).bind fun t113 => (if t113 = 0 then ((rdata_split.f a0 a1).bind fun bt114 => (if 0 ≤ (wrap64 ((bt114.1.length : Int) - 1)) then (if (wrap64 ((bt114.1.length : Int) - 1)) < (bt114.1.length : Int) then (some ((rd_T124 bt114.1 (wrap64 ((bt114.1.length : Int) - 1))).f0, true)) else (none)) else (none))) else (some ((⟨#[]⟩ : ByteArray), false)))) else (if a0 = 15 then ((rdata_Check.f k a0 a1).bind fun t119 => (if t119 = 0 then ((rdata_split.f a0 a1).bind fun bt120 => (if 0 ≤ (wrap64 ((bt120.1.length : Int) - 1)) then (if (wrap64 ((bt120.1.length : Int) - 1)) < (bt120.1.length : Int) then (some ((rd_T124 bt120.1 (wrap64 ((bt120.1.length : Int) - 1))).f0, true)) else (none)) else (none))) else (some ((⟨#[]⟩ : ByteArray), false)))) else (some ((⟨#[]⟩ : ByteArray), false)))))) = some (r1, r2) := h
  clear h
  by_cases c3 : a0 = 2
  · rw [if_pos c3] at H
    have c3b0 : (a0 == 2) = true := beq_iff_eq.mpr c3
    have c3b1 : (a0 != 2) = false := bne_eq_false_iff_eq.mpr c3
    clear c3
    replace H := Option.bind_eq_some_iff.mp H
    obtain ⟨t101, A40, H⟩ := H
    replace H : (if t101 = 0 then ((rdata_split.f a0 a1).bind fun bt102 => (if 0 ≤ (wrap64 ((bt102.1.length : Int) - 1)) then (if (wrap64 ((bt102.1.length : Int) - 1)) < (bt102.1.length : Int) then (some ((rd_T124 bt102.1 (wrap64 ((bt102.1.length : Int) - 1))).f0, true)) else (none)) else (none))) else (some ((⟨#[]⟩ : ByteArray), false))) = some (r1, r2) := H
    have A4 := Aside0.mk A40
    clear A40
    by_cases c5 : t101 = 0
    · rw [if_pos c5] at H
      have c5b0 : (t101 == 0) = true := beq_iff_eq.mpr c5
      have c5b1 : (t101 != 0) = false := bne_eq_false_iff_eq.mpr c5
      clear c5
      replace H := Option.bind_eq_some_iff.mp H
      obtain ⟨⟨t102, t103⟩, A60, H⟩ := H
      replace H : (if 0 ≤ (wrap64 ((t102.length : Int) - 1)) then (if (wrap64 ((t102.length : Int) - 1)) < (t102.length : Int) then (some ((rd_T124 t102 (wrap64 ((t102.length : Int) - 1))).f0, true)) else (none)) else (none)) = some (r1, r2) := H
      have A6 := Aside0.mk A60
      clear A60
      obtain ⟨ji7, hji7⟩ : ∃ j_ : Int, (wrap64 ((t102.length : Int) - 1)) = j_ := ⟨_, rfl⟩
      replace H : (if 0 ≤ (ji7) then (if (ji7) < (t102.length : Int) then (some ((rd_T124 t102 (ji7)).f0, true)) else (none)) else (none)) = some (r1, r2) := by first | (rw [hji7] at H; exact H) | (simp only [hji7] at H ⊢; exact H)
      (try rw [hji7] at A4)
      (try rw [hji7] at A6)
      have hji7w : (IntKind.i64.wrap ((t102.length : Int) - 1)) = ji7 := (i64_w _).trans hji7
      by_cases c8 : 0 ≤ (ji7)
      · rw [if_pos c8] at H
        have c8b0 : decide (0 ≤ (ji7)) = true := decide_eq_true c8
        clear c8
        by_cases c9 : (ji7) < (t102.length : Int)
        · rw [if_pos c9] at H
          have c9b0 : decide ((ji7) < (t102.length : Int)) = true := decide_eq_true c9
          clear c9
          simp only [Option.some.injEq, Prod.mk.injEq] at H
          obtain ⟨rfl, rfl⟩ := H
          go_enter Try.func59, Try.ntmps59
          go_wp2_with (first | (go_at_call 58; (with_reducible refine (rdata_Check.calls k a0 a1 t101 _ A4.out).mono ?_); rintro e w10 ⟨rfl, hb⟩; have n0_ := Aside0.mk (below_step (by repeat (first | (with_reducible first | exact HB.out | apply below_alloc | apply pw_below_drewN | apply below_drew1) | exact HB.out)) hb); clear HB; have HB := n0_; clear n0_; (try clear hb); (try clear hb2); (try clear hk); (try clear hi)) | ((with_reducible refine gate_callee (f := 97) rfl ?_); refine goesL_ (some 31) rfl rfl Try.func97 (by kernel_rfl) rfl #[.int .i64 a0, .string a1] rfl (by (try simp only [List.map_toArray, List.map_cons, List.map_nil]); first | done | rfl | (simp only [List.length_drop, List.length_take]; rfl)) ?_; (with_reducible refine (rdata_split.calls a0 a1 t102 t103 _ A6.out).mono ?_); rintro e w11 ⟨v104, rfl, ho0, hb⟩; refine ⟨_, rfl, ?_⟩; have n0_ := Aside0.mk (Kd.R_lower ho0 (below_size (by repeat (first | (with_reducible first | exact HB.out | apply below_alloc | apply pw_below_drewN | apply below_drew1) | exact HB.out)))); have n1_ := Aside0.mk (below_step (by repeat (first | (with_reducible first | exact HB.out | apply below_alloc | apply pw_below_drewN | apply below_drew1) | exact HB.out)) hb); clear HB; have HO105 := n0_; have HB := n1_; clear n0_ n1_; (try clear hb); (try clear hb2); (try clear hk); (try clear hi); (try clear ho0); obtain ⟨Ao12, co12, eo12⟩ := Kd.R_slice HO105.out; subst eo12; have p106 : 0 ≤ ((ji7) : Int) := of_decide_eq_true (by first | (with_reducible assumption) | assumption); have q106 : (ji7) < (t102.length : Int) := of_decide_eq_true (by first | (with_reducible assumption) | assumption); obtain ⟨ad106, e106, hx106_0, hx106_1⟩ := at_T124 (Kd.R_reads' HO105.out).2.2 (ji7) p106 q106; cases e106; replace p106 := eq_true p106; replace q106 := eq_true q106))
          go_ret2
          exact ⟨by first | rfl | (simp [errW_none, errW_some] <;> rfl) | (simp only [← hji7]; first | rfl | (simp [errW_none, errW_some] <;> rfl)) | (simp [*, errW_none, errW_some] <;> rfl), by repeat (first | (with_reducible first | exact HB.out | apply below_alloc | apply pw_below_drewN | apply below_drew1) | exact HB.out)⟩
        · rw [if_neg c9] at H
          exact absurd H (by simp)
      · rw [if_neg c8] at H
        exact absurd H (by simp)
    · rw [if_neg c5] at H
      have c5b0 : (t101 == 0) = false := beq_eq_false_iff_ne.mpr c5
      have c5b1 : (t101 != 0) = true := bne_iff_ne.mpr c5
      simp only [Option.some.injEq, Prod.mk.injEq] at H
      obtain ⟨rfl, rfl⟩ := H
      go_enter Try.func59, Try.ntmps59
      go_wp2_with (first | (go_at_call 58; (with_reducible refine (rdata_Check.calls k a0 a1 t101 _ A4.out).mono ?_); rintro e w13 ⟨rfl, hb⟩; have n0_ := Aside0.mk (below_step (by repeat (first | (with_reducible first | exact HB.out | apply below_alloc | apply pw_below_drewN | apply below_drew1) | exact HB.out)) hb); clear HB; have HB := n0_; clear n0_; (try clear hb); (try clear hb2); (try clear hk); (try clear hi)))
      go_ret2
      exact ⟨by first | rfl | (simp [errW_none, errW_some] <;> rfl) | (simp [*, errW_none, errW_some] <;> rfl), by repeat (first | (with_reducible first | exact HB.out | apply below_alloc | apply pw_below_drewN | apply below_drew1) | exact HB.out)⟩
  · rw [if_neg c3] at H
    have c3b0 : (a0 == 2) = false := beq_eq_false_iff_ne.mpr c3
    have c3b1 : (a0 != 2) = true := bne_iff_ne.mpr c3
    by_cases c14 : a0 = 5
    · rw [if_pos c14] at H
      have c14b0 : (a0 == 5) = true := beq_iff_eq.mpr c14
      have c14b1 : (a0 != 5) = false := bne_eq_false_iff_eq.mpr c14
      clear c14
      replace H := Option.bind_eq_some_iff.mp H
      obtain ⟨t107, A150, H⟩ := H
      replace H : (if t107 = 0 then ((rdata_split.f a0 a1).bind fun bt108 => (if 0 ≤ (wrap64 ((bt108.1.length : Int) - 1)) then (if (wrap64 ((bt108.1.length : Int) - 1)) < (bt108.1.length : Int) then (some ((rd_T124 bt108.1 (wrap64 ((bt108.1.length : Int) - 1))).f0, true)) else (none)) else (none))) else (some ((⟨#[]⟩ : ByteArray), false))) = some (r1, r2) := H
      have A15 := Aside0.mk A150
      clear A150
      by_cases c16 : t107 = 0
      · rw [if_pos c16] at H
        have c16b0 : (t107 == 0) = true := beq_iff_eq.mpr c16
        have c16b1 : (t107 != 0) = false := bne_eq_false_iff_eq.mpr c16
        clear c16
        replace H := Option.bind_eq_some_iff.mp H
        obtain ⟨⟨t108, t109⟩, A170, H⟩ := H
        replace H : (if 0 ≤ (wrap64 ((t108.length : Int) - 1)) then (if (wrap64 ((t108.length : Int) - 1)) < (t108.length : Int) then (some ((rd_T124 t108 (wrap64 ((t108.length : Int) - 1))).f0, true)) else (none)) else (none)) = some (r1, r2) := H
        have A17 := Aside0.mk A170
        clear A170
        obtain ⟨ji18, hji18⟩ : ∃ j_ : Int, (wrap64 ((t108.length : Int) - 1)) = j_ := ⟨_, rfl⟩
        replace H : (if 0 ≤ (ji18) then (if (ji18) < (t108.length : Int) then (some ((rd_T124 t108 (ji18)).f0, true)) else (none)) else (none)) = some (r1, r2) := by first | (rw [hji18] at H; exact H) | (simp only [hji18] at H ⊢; exact H)
        (try rw [hji18] at A15)
        (try rw [hji18] at A17)
        have hji18w : (IntKind.i64.wrap ((t108.length : Int) - 1)) = ji18 := (i64_w _).trans hji18
        by_cases c19 : 0 ≤ (ji18)
        · rw [if_pos c19] at H
          have c19b0 : decide (0 ≤ (ji18)) = true := decide_eq_true c19
          clear c19
          by_cases c20 : (ji18) < (t108.length : Int)
          · rw [if_pos c20] at H
            have c20b0 : decide ((ji18) < (t108.length : Int)) = true := decide_eq_true c20
            clear c20
            simp only [Option.some.injEq, Prod.mk.injEq] at H
            obtain ⟨rfl, rfl⟩ := H
            go_enter Try.func59, Try.ntmps59
            go_wp2_with (first | (go_at_call 58; (with_reducible refine (rdata_Check.calls k a0 a1 t107 _ A15.out).mono ?_); rintro e w21 ⟨rfl, hb⟩; have n0_ := Aside0.mk (below_step (by repeat (first | (with_reducible first | exact HB.out | apply below_alloc | apply pw_below_drewN | apply below_drew1) | exact HB.out)) hb); clear HB; have HB := n0_; clear n0_; (try clear hb); (try clear hb2); (try clear hk); (try clear hi)) | ((with_reducible refine gate_callee (f := 97) rfl ?_); refine goesL_ (some 31) rfl rfl Try.func97 (by kernel_rfl) rfl #[.int .i64 a0, .string a1] rfl (by (try simp only [List.map_toArray, List.map_cons, List.map_nil]); first | done | rfl | (simp only [List.length_drop, List.length_take]; rfl)) ?_; (with_reducible refine (rdata_split.calls a0 a1 t108 t109 _ A17.out).mono ?_); rintro e w22 ⟨v110, rfl, ho0, hb⟩; refine ⟨_, rfl, ?_⟩; have n0_ := Aside0.mk (Kd.R_lower ho0 (below_size (by repeat (first | (with_reducible first | exact HB.out | apply below_alloc | apply pw_below_drewN | apply below_drew1) | exact HB.out)))); have n1_ := Aside0.mk (below_step (by repeat (first | (with_reducible first | exact HB.out | apply below_alloc | apply pw_below_drewN | apply below_drew1) | exact HB.out)) hb); clear HB; have HO111 := n0_; have HB := n1_; clear n0_ n1_; (try clear hb); (try clear hb2); (try clear hk); (try clear hi); (try clear ho0); obtain ⟨Ao23, co23, eo23⟩ := Kd.R_slice HO111.out; subst eo23; have p112 : 0 ≤ ((ji18) : Int) := of_decide_eq_true (by first | (with_reducible assumption) | assumption); have q112 : (ji18) < (t108.length : Int) := of_decide_eq_true (by first | (with_reducible assumption) | assumption); obtain ⟨ad112, e112, hx112_0, hx112_1⟩ := at_T124 (Kd.R_reads' HO111.out).2.2 (ji18) p112 q112; cases e112; replace p112 := eq_true p112; replace q112 := eq_true q112))
            go_ret2
            exact ⟨by first | rfl | (simp [errW_none, errW_some] <;> rfl) | (simp only [← hji18]; first | rfl | (simp [errW_none, errW_some] <;> rfl)) | (simp [*, errW_none, errW_some] <;> rfl), by repeat (first | (with_reducible first | exact HB.out | apply below_alloc | apply pw_below_drewN | apply below_drew1) | exact HB.out)⟩
          · rw [if_neg c20] at H
            exact absurd H (by simp)
        · rw [if_neg c19] at H
          exact absurd H (by simp)
      · rw [if_neg c16] at H
        have c16b0 : (t107 == 0) = false := beq_eq_false_iff_ne.mpr c16
        have c16b1 : (t107 != 0) = true := bne_iff_ne.mpr c16
        simp only [Option.some.injEq, Prod.mk.injEq] at H
        obtain ⟨rfl, rfl⟩ := H
        go_enter Try.func59, Try.ntmps59
        go_wp2_with (first | (go_at_call 58; (with_reducible refine (rdata_Check.calls k a0 a1 t107 _ A15.out).mono ?_); rintro e w24 ⟨rfl, hb⟩; have n0_ := Aside0.mk (below_step (by repeat (first | (with_reducible first | exact HB.out | apply below_alloc | apply pw_below_drewN | apply below_drew1) | exact HB.out)) hb); clear HB; have HB := n0_; clear n0_; (try clear hb); (try clear hb2); (try clear hk); (try clear hi)))
        go_ret2
        exact ⟨by first | rfl | (simp [errW_none, errW_some] <;> rfl) | (simp [*, errW_none, errW_some] <;> rfl), by repeat (first | (with_reducible first | exact HB.out | apply below_alloc | apply pw_below_drewN | apply below_drew1) | exact HB.out)⟩
    · rw [if_neg c14] at H
      have c14b0 : (a0 == 5) = false := beq_eq_false_iff_ne.mpr c14
      have c14b1 : (a0 != 5) = true := bne_iff_ne.mpr c14
      by_cases c25 : a0 = 12
      · rw [if_pos c25] at H
        have c25b0 : (a0 == 12) = true := beq_iff_eq.mpr c25
        have c25b1 : (a0 != 12) = false := bne_eq_false_iff_eq.mpr c25
        clear c25
        replace H := Option.bind_eq_some_iff.mp H
        obtain ⟨t113, A260, H⟩ := H
        replace H : (if t113 = 0 then ((rdata_split.f a0 a1).bind fun bt114 => (if 0 ≤ (wrap64 ((bt114.1.length : Int) - 1)) then (if (wrap64 ((bt114.1.length : Int) - 1)) < (bt114.1.length : Int) then (some ((rd_T124 bt114.1 (wrap64 ((bt114.1.length : Int) - 1))).f0, true)) else (none)) else (none))) else (some ((⟨#[]⟩ : ByteArray), false))) = some (r1, r2) := H
        have A26 := Aside0.mk A260
        clear A260
        by_cases c27 : t113 = 0
        · rw [if_pos c27] at H
          have c27b0 : (t113 == 0) = true := beq_iff_eq.mpr c27
          have c27b1 : (t113 != 0) = false := bne_eq_false_iff_eq.mpr c27
          clear c27
          replace H := Option.bind_eq_some_iff.mp H
          obtain ⟨⟨t114, t115⟩, A280, H⟩ := H
          replace H : (if 0 ≤ (wrap64 ((t114.length : Int) - 1)) then (if (wrap64 ((t114.length : Int) - 1)) < (t114.length : Int) then (some ((rd_T124 t114 (wrap64 ((t114.length : Int) - 1))).f0, true)) else (none)) else (none)) = some (r1, r2) := H
          have A28 := Aside0.mk A280
          clear A280
          obtain ⟨ji29, hji29⟩ : ∃ j_ : Int, (wrap64 ((t114.length : Int) - 1)) = j_ := ⟨_, rfl⟩
          replace H : (if 0 ≤ (ji29) then (if (ji29) < (t114.length : Int) then (some ((rd_T124 t114 (ji29)).f0, true)) else (none)) else (none)) = some (r1, r2) := by first | (rw [hji29] at H; exact H) | (simp only [hji29] at H ⊢; exact H)
          (try rw [hji29] at A26)
          (try rw [hji29] at A28)
          have hji29w : (IntKind.i64.wrap ((t114.length : Int) - 1)) = ji29 := (i64_w _).trans hji29
          by_cases c30 : 0 ≤ (ji29)
          · rw [if_pos c30] at H
            have c30b0 : decide (0 ≤ (ji29)) = true := decide_eq_true c30
            clear c30
            by_cases c31 : (ji29) < (t114.length : Int)
            · rw [if_pos c31] at H
              have c31b0 : decide ((ji29) < (t114.length : Int)) = true := decide_eq_true c31
              clear c31
              simp only [Option.some.injEq, Prod.mk.injEq] at H
              obtain ⟨rfl, rfl⟩ := H
              go_enter Try.func59, Try.ntmps59
              go_wp2_with (first | (go_at_call 58; (with_reducible refine (rdata_Check.calls k a0 a1 t113 _ A26.out).mono ?_); rintro e w32 ⟨rfl, hb⟩; have n0_ := Aside0.mk (below_step (by repeat (first | (with_reducible first | exact HB.out | apply below_alloc | apply pw_below_drewN | apply below_drew1) | exact HB.out)) hb); clear HB; have HB := n0_; clear n0_; (try clear hb); (try clear hb2); (try clear hk); (try clear hi)) | ((with_reducible refine gate_callee (f := 97) rfl ?_); refine goesL_ (some 31) rfl rfl Try.func97 (by kernel_rfl) rfl #[.int .i64 a0, .string a1] rfl (by (try simp only [List.map_toArray, List.map_cons, List.map_nil]); first | done | rfl | (simp only [List.length_drop, List.length_take]; rfl)) ?_; (with_reducible refine (rdata_split.calls a0 a1 t114 t115 _ A28.out).mono ?_); rintro e w33 ⟨v116, rfl, ho0, hb⟩; refine ⟨_, rfl, ?_⟩; have n0_ := Aside0.mk (Kd.R_lower ho0 (below_size (by repeat (first | (with_reducible first | exact HB.out | apply below_alloc | apply pw_below_drewN | apply below_drew1) | exact HB.out)))); have n1_ := Aside0.mk (below_step (by repeat (first | (with_reducible first | exact HB.out | apply below_alloc | apply pw_below_drewN | apply below_drew1) | exact HB.out)) hb); clear HB; have HO117 := n0_; have HB := n1_; clear n0_ n1_; (try clear hb); (try clear hb2); (try clear hk); (try clear hi); (try clear ho0); obtain ⟨Ao34, co34, eo34⟩ := Kd.R_slice HO117.out; subst eo34; have p118 : 0 ≤ ((ji29) : Int) := of_decide_eq_true (by first | (with_reducible assumption) | assumption); have q118 : (ji29) < (t114.length : Int) := of_decide_eq_true (by first | (with_reducible assumption) | assumption); obtain ⟨ad118, e118, hx118_0, hx118_1⟩ := at_T124 (Kd.R_reads' HO117.out).2.2 (ji29) p118 q118; cases e118; replace p118 := eq_true p118; replace q118 := eq_true q118))
              go_ret2
              exact ⟨by first | rfl | (simp [errW_none, errW_some] <;> rfl) | (simp only [← hji29]; first | rfl | (simp [errW_none, errW_some] <;> rfl)) | (simp [*, errW_none, errW_some] <;> rfl), by repeat (first | (with_reducible first | exact HB.out | apply below_alloc | apply pw_below_drewN | apply below_drew1) | exact HB.out)⟩
            · rw [if_neg c31] at H
              exact absurd H (by simp)
          · rw [if_neg c30] at H
            exact absurd H (by simp)
        · rw [if_neg c27] at H
          have c27b0 : (t113 == 0) = false := beq_eq_false_iff_ne.mpr c27
          have c27b1 : (t113 != 0) = true := bne_iff_ne.mpr c27
          simp only [Option.some.injEq, Prod.mk.injEq] at H
          obtain ⟨rfl, rfl⟩ := H
          go_enter Try.func59, Try.ntmps59
          go_wp2_with (first | (go_at_call 58; (with_reducible refine (rdata_Check.calls k a0 a1 t113 _ A26.out).mono ?_); rintro e w35 ⟨rfl, hb⟩; have n0_ := Aside0.mk (below_step (by repeat (first | (with_reducible first | exact HB.out | apply below_alloc | apply pw_below_drewN | apply below_drew1) | exact HB.out)) hb); clear HB; have HB := n0_; clear n0_; (try clear hb); (try clear hb2); (try clear hk); (try clear hi)))
          go_ret2
          exact ⟨by first | rfl | (simp [errW_none, errW_some] <;> rfl) | (simp [*, errW_none, errW_some] <;> rfl), by repeat (first | (with_reducible first | exact HB.out | apply below_alloc | apply pw_below_drewN | apply below_drew1) | exact HB.out)⟩
      · rw [if_neg c25] at H
        have c25b0 : (a0 == 12) = false := beq_eq_false_iff_ne.mpr c25
        have c25b1 : (a0 != 12) = true := bne_iff_ne.mpr c25
        by_cases c36 : a0 = 15
        · rw [if_pos c36] at H
          have c36b0 : (a0 == 15) = true := beq_iff_eq.mpr c36
          have c36b1 : (a0 != 15) = false := bne_eq_false_iff_eq.mpr c36
          clear c36
          replace H := Option.bind_eq_some_iff.mp H
          obtain ⟨t119, A370, H⟩ := H
          replace H : (if t119 = 0 then ((rdata_split.f a0 a1).bind fun bt120 => (if 0 ≤ (wrap64 ((bt120.1.length : Int) - 1)) then (if (wrap64 ((bt120.1.length : Int) - 1)) < (bt120.1.length : Int) then (some ((rd_T124 bt120.1 (wrap64 ((bt120.1.length : Int) - 1))).f0, true)) else (none)) else (none))) else (some ((⟨#[]⟩ : ByteArray), false))) = some (r1, r2) := H
          have A37 := Aside0.mk A370
          clear A370
          by_cases c38 : t119 = 0
          · rw [if_pos c38] at H
            have c38b0 : (t119 == 0) = true := beq_iff_eq.mpr c38
            have c38b1 : (t119 != 0) = false := bne_eq_false_iff_eq.mpr c38
            clear c38
            replace H := Option.bind_eq_some_iff.mp H
            obtain ⟨⟨t120, t121⟩, A390, H⟩ := H
            replace H : (if 0 ≤ (wrap64 ((t120.length : Int) - 1)) then (if (wrap64 ((t120.length : Int) - 1)) < (t120.length : Int) then (some ((rd_T124 t120 (wrap64 ((t120.length : Int) - 1))).f0, true)) else (none)) else (none)) = some (r1, r2) := H
            have A39 := Aside0.mk A390
            clear A390
            obtain ⟨ji40, hji40⟩ : ∃ j_ : Int, (wrap64 ((t120.length : Int) - 1)) = j_ := ⟨_, rfl⟩
            replace H : (if 0 ≤ (ji40) then (if (ji40) < (t120.length : Int) then (some ((rd_T124 t120 (ji40)).f0, true)) else (none)) else (none)) = some (r1, r2) := by first | (rw [hji40] at H; exact H) | (simp only [hji40] at H ⊢; exact H)
            (try rw [hji40] at A37)
            (try rw [hji40] at A39)
            have hji40w : (IntKind.i64.wrap ((t120.length : Int) - 1)) = ji40 := (i64_w _).trans hji40
            by_cases c41 : 0 ≤ (ji40)
            · rw [if_pos c41] at H
              have c41b0 : decide (0 ≤ (ji40)) = true := decide_eq_true c41
              clear c41
              by_cases c42 : (ji40) < (t120.length : Int)
              · rw [if_pos c42] at H
                have c42b0 : decide ((ji40) < (t120.length : Int)) = true := decide_eq_true c42
                clear c42
                simp only [Option.some.injEq, Prod.mk.injEq] at H
                obtain ⟨rfl, rfl⟩ := H
                go_enter Try.func59, Try.ntmps59
                go_wp2_with (first | (go_at_call 58; (with_reducible refine (rdata_Check.calls k a0 a1 t119 _ A37.out).mono ?_); rintro e w43 ⟨rfl, hb⟩; have n0_ := Aside0.mk (below_step (by repeat (first | (with_reducible first | exact HB.out | apply below_alloc | apply pw_below_drewN | apply below_drew1) | exact HB.out)) hb); clear HB; have HB := n0_; clear n0_; (try clear hb); (try clear hb2); (try clear hk); (try clear hi)) | ((with_reducible refine gate_callee (f := 97) rfl ?_); refine goesL_ (some 31) rfl rfl Try.func97 (by kernel_rfl) rfl #[.int .i64 a0, .string a1] rfl (by (try simp only [List.map_toArray, List.map_cons, List.map_nil]); first | done | rfl | (simp only [List.length_drop, List.length_take]; rfl)) ?_; (with_reducible refine (rdata_split.calls a0 a1 t120 t121 _ A39.out).mono ?_); rintro e w44 ⟨v122, rfl, ho0, hb⟩; refine ⟨_, rfl, ?_⟩; have n0_ := Aside0.mk (Kd.R_lower ho0 (below_size (by repeat (first | (with_reducible first | exact HB.out | apply below_alloc | apply pw_below_drewN | apply below_drew1) | exact HB.out)))); have n1_ := Aside0.mk (below_step (by repeat (first | (with_reducible first | exact HB.out | apply below_alloc | apply pw_below_drewN | apply below_drew1) | exact HB.out)) hb); clear HB; have HO123 := n0_; have HB := n1_; clear n0_ n1_; (try clear hb); (try clear hb2); (try clear hk); (try clear hi); (try clear ho0); obtain ⟨Ao45, co45, eo45⟩ := Kd.R_slice HO123.out; subst eo45; have p124 : 0 ≤ ((ji40) : Int) := of_decide_eq_true (by first | (with_reducible assumption) | assumption); have q124 : (ji40) < (t120.length : Int) := of_decide_eq_true (by first | (with_reducible assumption) | assumption); obtain ⟨ad124, e124, hx124_0, hx124_1⟩ := at_T124 (Kd.R_reads' HO123.out).2.2 (ji40) p124 q124; cases e124; replace p124 := eq_true p124; replace q124 := eq_true q124))
                go_ret2
                exact ⟨by first | rfl | (simp [errW_none, errW_some] <;> rfl) | (simp only [← hji40]; first | rfl | (simp [errW_none, errW_some] <;> rfl)) | (simp [*, errW_none, errW_some] <;> rfl), by repeat (first | (with_reducible first | exact HB.out | apply below_alloc | apply pw_below_drewN | apply below_drew1) | exact HB.out)⟩
              · rw [if_neg c42] at H
                exact absurd H (by simp)
            · rw [if_neg c41] at H
              exact absurd H (by simp)
          · rw [if_neg c38] at H
            have c38b0 : (t119 == 0) = false := beq_eq_false_iff_ne.mpr c38
            have c38b1 : (t119 != 0) = true := bne_iff_ne.mpr c38
            simp only [Option.some.injEq, Prod.mk.injEq] at H
            obtain ⟨rfl, rfl⟩ := H
            go_enter Try.func59, Try.ntmps59
            go_wp2_with (first | (go_at_call 58; (with_reducible refine (rdata_Check.calls k a0 a1 t119 _ A37.out).mono ?_); rintro e w46 ⟨rfl, hb⟩; have n0_ := Aside0.mk (below_step (by repeat (first | (with_reducible first | exact HB.out | apply below_alloc | apply pw_below_drewN | apply below_drew1) | exact HB.out)) hb); clear HB; have HB := n0_; clear n0_; (try clear hb); (try clear hb2); (try clear hk); (try clear hi)))
            go_ret2
            exact ⟨by first | rfl | (simp [errW_none, errW_some] <;> rfl) | (simp [*, errW_none, errW_some] <;> rfl), by repeat (first | (with_reducible first | exact HB.out | apply below_alloc | apply pw_below_drewN | apply below_drew1) | exact HB.out)⟩
        · rw [if_neg c36] at H
          have c36b0 : (a0 == 15) = false := beq_eq_false_iff_ne.mpr c36
          have c36b1 : (a0 != 15) = true := bne_iff_ne.mpr c36
          simp only [Option.some.injEq, Prod.mk.injEq] at H
          obtain ⟨rfl, rfl⟩ := H
          go_enter Try.func59, Try.ntmps59
          go_wp2
          go_ret2
          exact ⟨by first | rfl | (simp [errW_none, errW_some] <;> rfl) | (simp [*, errW_none, errW_some] <;> rfl), by repeat (first | (with_reducible first | exact HB.out | apply below_alloc | apply pw_below_drewN | apply below_drew1) | exact HB.out)⟩

end Go.Proofs.Ytjjbhpbmfpodeaa.X
end
section
namespace Go.Proofs.Ytjjbhpbmfpodeaa.X
open Go.RowKit Go.Proofs.YtjjbhpbmfpodeaaW.PrintWords Go.Proofs.YtjjbhpbmfpodeaaW.PrintLast Go.Proofs.YtjjbhpbmfpodeaaW.PrintMore
attribute [local go_sem] max2_int min2_int max_two min_two max_three min_three max_four min_four   -- for this text's walks alone
set_option linter.unusedVariables false
set_option linter.unusedSimpArgs false

/-! ### rdata_Lower: function 68 -/
def rdata_Lower.l0 : Nat → ByteArray → List (S124) → Int → Int → Option (ByteArray)
  | 0, _, _, _, _ => none
  | k + 1, x7, x19, x20, x21 => if x21 < x20 then (if 0 ≤ x21 then (if x21 < (x19.length : Int) then (if (rd_T124 x19 x21).f1 = true then ((name_Lower.f ((rd_T124 x19 x21).f0)).bind fun t107 => (if x7.size + t107.size ≤ 9223372036854775807 then (rdata_Lower.l0 k (x7 ++ t107) x19 x20 (wrap64 (x21 + 1))) else (none))) else (if x7.size + ((rd_T124 x19 x21).f0).size ≤ 9223372036854775807 then (rdata_Lower.l0 k (x7 ++ ((rd_T124 x19 x21).f0)) x19 x20 (wrap64 (x21 + 1))) else (none))) else (none)) else (none)) else (some x7)
def rdata_Lower.f (k : Nat) (a0 : Int) (a1 : ByteArray) : Option (ByteArray) := (rdata_split.f a0 a1).bind fun bt101 => (if bt101.2 = true then (rdata_Lower.l0 k (⟨#[]⟩ : ByteArray) bt101.1 (bt101.1.length : Int) 0) else (some a1))
theorem rdata_Lower.mono_l : ∀ k, (∀ y0 y1 y2 y3, LeO (rdata_Lower.l0 k y0 y1 y2 y3) (rdata_Lower.l0 (k + 1) y0 y1 y2 y3))
  | 0 => fun _ _ _ _ r h => by simp [rdata_Lower.l0] at h
  | k + 1 => by
    have ih0 := rdata_Lower.mono_l k
    · intro y0 y1 y2 y3
      unfold rdata_Lower.l0
      repeat' first
      | (with_reducible exact ih0 _ _ _ _)
      | (with_reducible exact LeO.refl _)
      | (with_reducible exact LeO.none _)
      | (with_reducible refine LeO.ite ?_ ?_)
      | (with_reducible refine LeO.bind ?_ (fun _ => ?_))
      | exact ih0 _ _ _ _
      | exact LeO.none _
      | refine LeO.ite ?_ ?_
      | refine LeO.bind ?_ (fun _ => ?_)
theorem rdata_Lower.mono : ∀ a0 a1 k, LeO (rdata_Lower.f k a0 a1) (rdata_Lower.f (k + 1) a0 a1) := by
  intro a0 a1 k
  have ih0 := rdata_Lower.mono_l k
  unfold rdata_Lower.f
  repeat' first
      | (with_reducible exact ih0 _ _ _ _)
      | (with_reducible exact LeO.refl _)
      | (with_reducible exact LeO.none _)
      | (with_reducible refine LeO.ite ?_ ?_)
      | (with_reducible refine LeO.bind ?_ (fun _ => ?_))
      | exact ih0 _ _ _ _
      | exact LeO.none _
      | refine LeO.ite ?_ ?_
      | refine LeO.bind ?_ (fun _ => ?_)
set_option maxHeartbeats 8000000 in
set_option maxRecDepth 100000 in
theorem rdata_Lower.calls (k : Nat) (a0 : Int) (a1 : ByteArray) (r : ByteArray) (w : World) (h : rdata_Lower.f k a0 a1 = some r) :
    Calls Try.prog 68 #[.int .i64 a0, .string a1] w fun e w' => e = .returned (.string r) ∧ Below w.heap.size w w' := by
  have hu124 := Try.underlying124
  have HB := Aside0.mk (Below.refl w.heap.size w)
  have H : ((rdata_split.f a0 a1).bind fun bt101 => (if bt101.2 = true then (rdata_Lower.l0 k (⟨#[]⟩ : ByteArray) bt101.1 (bt101.1.length : Int) 0) else (some a1))) = some r := h
  clear h
  replace H := Option.bind_eq_some_iff.mp H
  obtain ⟨⟨t101, t102⟩, A30, H⟩ := H
  replace H : (if t102 = true then (rdata_Lower.l0 k (⟨#[]⟩ : ByteArray) t101 (t101.length : Int) 0) else (some a1)) = some r := H
  have A3 := Aside0.mk A30
  clear A30
  by_cases c4 : t102 = true
  · subst c4
    have H1 : (rdata_Lower.l0 k (⟨#[]⟩ : ByteArray) t101 (t101.length : Int) 0) = some r := by rw [if_pos rfl] at H; exact H
    clear H
    have H := H1
    clear H1
    have H' := Aside0.mk H
    clear H
    go_enter Try.func68, Try.ntmps68
    go_wp2_with (first | ((with_reducible refine gate_callee (f := 97) rfl ?_); refine goesL_ (some 13) rfl rfl Try.func97 (by kernel_rfl) rfl #[.int .i64 a0, .string a1] rfl (by (try simp only [List.map_toArray, List.map_cons, List.map_nil]); first | done | rfl | (simp only [List.length_drop, List.length_take]; rfl)) ?_; (with_reducible refine (rdata_split.calls a0 a1 t101 true _ A3.out).mono ?_); rintro e w5 ⟨v103, rfl, ho0, hb⟩; refine ⟨_, rfl, ?_⟩; have n0_ := Aside0.mk (Kd.R_lower ho0 (below_size (by repeat (first | (with_reducible first | exact HB.out | apply below_alloc | apply pw_below_drewN | apply below_drew1) | exact HB.out)))); have n1_ := Aside0.mk (below_step (by repeat (first | (with_reducible first | exact HB.out | apply below_alloc | apply pw_below_drewN | apply below_drew1) | exact HB.out)) hb); clear HB; have HO104 := n0_; have HB := n1_; clear n0_ n1_; (try clear hb); (try clear hb2); (try clear hk); (try clear hi); (try clear ho0); obtain ⟨Ao6, co6, eo6⟩ := Kd.R_slice HO104.out; subst eo6))
    go_loopg [7, 21] k (fun kq v7 v21 w' => ∃ (x7_1 : ByteArray) (x21_1 : Int), v7 = .string x7_1 ∧ v21 = .int .i64 x21_1 ∧ Aside0 (rdata_Lower.l0 kq x7_1 t101 (t101.length : Int) x21_1 = some r) ∧ Aside0 (kq ≤ k) ∧ Aside0 (Kd.R k124 124 w' w.heap.size (fun _ => True) (.slice Ao6 t101.length co6) t101) ∧ Aside0 (Below w.heap.size w w'))
    case atStart => exact ⟨((⟨#[]⟩ : ByteArray)), (0), (by first | rfl | (simp; done) | (simp [*]; done)), (by first | rfl | (simp; done) | (simp [*]; done)), H', ⟨Nat.le_refl _⟩, ⟨by (with_reducible repeat (first | apply Kd.R_alloc | apply Kd.R_drewN | apply Kd.R_drew)); exact HO104.out⟩, ⟨by repeat (first | (with_reducible first | exact HB.out | apply below_alloc | apply pw_below_drewN | apply below_drew1) | exact HB.out)⟩⟩
    case round =>
      clear H'
      try clear p2
      try clear c4
      try clear c6
      obtain ⟨x7_1, x21_1, rfl, rfl, HA, HK1, HO_19, HB⟩ := hrel
      cases gk with
      | zero => exact absurd HA.out (by simp [rdata_Lower.l0])
      | succ k1 =>
        have H := HA.out
        clear HA
        simp only [rdata_Lower.l0] at H
        by_cases c7 : x21_1 < (t101.length : Int)
        · rw [if_pos c7] at H
          have c7b0 : decide (x21_1 < (t101.length : Int)) = true := decide_eq_true c7
          clear c7
          by_cases c8 : 0 ≤ x21_1
          · rw [if_pos c8] at H
            have c8b0 : decide (0 ≤ x21_1) = true := decide_eq_true c8
            clear c8
            by_cases c9 : x21_1 < (t101.length : Int)
            · rw [if_pos c9] at H
              have c9b0 : decide (x21_1 < (t101.length : Int)) = true := decide_eq_true c9
              clear c9
              obtain ⟨bq10, hbq10⟩ : ∃ b_ : Bool, b_ = ((rd_T124 t101 x21_1).f1) := ⟨_, rfl⟩
              replace H : (if bq10 = true then ((name_Lower.f ((rd_T124 t101 x21_1).f0)).bind fun t107 => (if x7_1.size + t107.size ≤ 9223372036854775807 then (rdata_Lower.l0 k1 (x7_1 ++ t107) t101 (t101.length : Int) (wrap64 (x21_1 + 1))) else (none))) else (if x7_1.size + ((rd_T124 t101 x21_1).f0).size ≤ 9223372036854775807 then (rdata_Lower.l0 k1 (x7_1 ++ ((rd_T124 t101 x21_1).f0)) t101 (t101.length : Int) (wrap64 (x21_1 + 1))) else (none))) = some r := by rw [← hbq10] at H; exact H
              have Nbq10 := Aside0.mk hbq10
              clear hbq10
              by_cases c11 : bq10 = true
              · subst c11
                have H1 : ((name_Lower.f ((rd_T124 t101 x21_1).f0)).bind fun t107 => (if x7_1.size + t107.size ≤ 9223372036854775807 then (rdata_Lower.l0 k1 (x7_1 ++ t107) t101 (t101.length : Int) (wrap64 (x21_1 + 1))) else (none))) = some r := by rw [if_pos rfl] at H; exact H
                clear H
                have H := H1
                clear H1
                replace H := Option.bind_eq_some_iff.mp H
                obtain ⟨t107, A120, H⟩ := H
                replace H : (if x7_1.size + t107.size ≤ 9223372036854775807 then (rdata_Lower.l0 k1 (x7_1 ++ t107) t101 (t101.length : Int) (wrap64 (x21_1 + 1))) else (none)) = some r := H
                have A12 := Aside0.mk A120
                clear A120
                by_cases c13 : x7_1.size + t107.size ≤ 9223372036854775807
                · rw [if_pos c13] at H
                  have c13b0 := eq_true c13
                  have c13b1 : decide (x7_1.size + t107.size ≤ 9223372036854775807) = true := decide_eq_true c13
                  try have c13b2 : (9223372036854775807 < x7_1.size + t107.size) = False := eq_false (Nat.not_lt.2 c13)
                  have H' := Aside0.mk H
                  clear H
                  have p105 : 0 ≤ (x21_1 : Int) := of_decide_eq_true (by first | (with_reducible assumption) | assumption)
                  have q105 : x21_1 < (t101.length : Int) := of_decide_eq_true (by first | (with_reducible assumption) | assumption)
                  obtain ⟨ad105, e105, hx105_0, hx105_1⟩ := at_T124 (Kd.R_reads' HO_19.out).2.2 x21_1 p105 q105
                  (try rw [← Nbq10.out] at hx105_1)
                  cases e105
                  replace p105 := eq_true p105
                  replace q105 := eq_true q105
                  go_wp2_with (first | ((with_reducible refine gate_dst (N := 9) rfl ?_); refine box_event ?hg (N := 9) ?hd (cs := #[.string (⟨#[]⟩ : ByteArray), .bool false]) (t := 124) ?hr ?_; (case hd => rfl); (case hg => rfl); (case hr => first | (go_simp; done) | (go_simp; rfl)); intro gb106 hg w14 hbox hb; have n0_ := Aside0.mk (Kd.R_below (Kd.R_elderB (by (with_reducible repeat (first | apply Kd.R_alloc | apply Kd.R_drewN | apply Kd.R_drew)); exact HO_19.out) gb106 (Nat.le_of_eq hg.symm)) hb); have n1_ := Aside0.mk (below_step (by repeat (first | (with_reducible first | exact HB.out | apply below_alloc | apply pw_below_drewN | apply below_drew1) | exact HB.out)) hb); have n2_ := Aside0.mk (hbox); have n3_ := Aside0.mk ((by rw [hg]; exact (below_size (by repeat (first | (with_reducible first | exact HB.out | apply below_alloc | apply pw_below_drewN | apply below_drew1) | exact HB.out))) : w.heap.size ≤ gb106)); have n4_ := Aside0.mk ((by rw [hg]; exact (below_size (by repeat (first | (with_reducible first | exact HB.out | apply below_alloc | apply pw_below_drewN | apply below_drew1) | exact HB.out))) : w.heap.size ≤ gb106)); clear HO_19; clear HB; have HO_19 := n0_; have HB := n1_; have BK106 := n2_; have GW106 := n3_; have GE106 := n4_; clear n0_ n1_ n2_ n3_ n4_; clear hb hbox hg; have hcz15_0 : w14.cell? ⟨gb106, 0, none⟩ = some (.string (⟨#[]⟩ : ByteArray)) := (blk_cell BK106.out 0).trans rfl; have hcz15_1 : w14.cell? ⟨gb106, 1, none⟩ = some (.bool false) := (blk_cell BK106.out 1).trans rfl; have hfz15_0 := blk_frozen BK106.out 0; have hfz15_1 := blk_frozen BK106.out 1) | ((with_reducible refine gate_callee (f := 70) rfl ?_); refine goesL_ (some 29) rfl rfl Try.func70 (by kernel_rfl) rfl #[.string ((rd_T124 t101 x21_1).f0)] rfl (by (try simp only [List.map_toArray, List.map_cons, List.map_nil]); first | done | rfl | (simp only [List.length_drop, List.length_take]; rfl)) ?_; (with_reducible refine (name_Lower.calls ((rd_T124 t101 x21_1).f0) t107 _ A12.out).mono ?_); rintro e w16 ⟨rfl, hb⟩; refine ⟨_, rfl, ?_⟩; have n0_ := Aside0.mk (Kd.R_below (by (with_reducible repeat (first | apply Kd.R_alloc | apply Kd.R_drewN | apply Kd.R_drew)); exact (Kd.R_mono (Kd.R_far (p := ⟨gb106, 1, none⟩) (Kd.R_far (p := ⟨gb106, 0, none⟩) (Kd.R_mono HO_19.out (fun k_ hk => (⟨hk, hk.2⟩ : _ ∧ k_ ≠ gb106))) (fun _ hk => hk.2) (.string ((rd_T124 t101 x21_1).f0))) (fun _ hk => hk.2) (.bool true)) (fun _ h_ => h_.1))) hb); have n1_ := Aside0.mk (blk_below (g := gb106) (o := .cells #[.string ((rd_T124 t101 x21_1).f0), .bool true] 124 (0, 0)) (by (with_reducible repeat (first | refine blk_drewN ?_ _ | refine blk_drew ?_ | refine blk_alloc ?_ _)); refine blk_put (cs := #[.string ((rd_T124 t101 x21_1).f0), .bool false]) ?_ 1 _ rfl; (with_reducible repeat (first | refine blk_drewN ?_ _ | refine blk_drew ?_ | refine blk_alloc ?_ _)); refine blk_put (cs := #[.string (⟨#[]⟩ : ByteArray), .bool false]) ?_ 0 _ rfl; (with_reducible repeat (first | refine blk_drewN ?_ _ | refine blk_drew ?_ | refine blk_alloc ?_ _)); exact BK106.out) hb); have n2_ := Aside0.mk (below_step (by repeat (first | (with_reducible first | exact HB.out | apply below_alloc | apply pw_below_drewN | apply below_drew1 | refine below_set ?_ GE106.out) | exact HB.out)) hb); clear HO_19; clear BK106; clear HB; have HO_19 := n0_; have BK106 := n1_; have HB := n2_; clear n0_ n1_ n2_; (try clear hb); (try clear hb2); (try clear hk); (try clear hi); have hcz17_0 : w16.cell? ⟨gb106, 0, none⟩ = some (.string ((rd_T124 t101 x21_1).f0)) := (blk_cell BK106.out 0).trans rfl; have hcz17_1 : w16.cell? ⟨gb106, 1, none⟩ = some (.bool true) := (blk_cell BK106.out 1).trans rfl; have hfz17_0 := blk_frozen BK106.out 0; have hfz17_1 := blk_frozen BK106.out 1))
                  go_roundg k1
                  case measure => have := HK1.out; omega
                  case rel => exact ⟨(x7_1 ++ t107), (wrap64 (x21_1 + 1)), (by first | rfl | (simp; done) | (simp [*]; done)), (by first | rfl | (simp; done) | (simp [*]; done)), H', ⟨by have := HK1.out; omega⟩, ⟨by (with_reducible repeat (first | apply Kd.R_alloc | apply Kd.R_drewN | apply Kd.R_drew)); exact Kd.R_mono (Kd.R_far (p := ⟨gb106, 0, none⟩) (Kd.R_mono HO_19.out (fun k_ hk => (⟨hk, hk.2⟩ : _ ∧ k_ ≠ gb106))) (fun _ hk => hk.2) (.string t107)) (fun _ hk => trivial)⟩, ⟨by repeat (first | (with_reducible first | exact HB.out | apply below_alloc | apply pw_below_drewN | apply below_drew1 | refine below_set ?_ GE106.out) | exact HB.out)⟩⟩
                · rw [if_neg c13] at H
                  exact absurd H (by simp)
              · replace c11 := Bool.eq_false_iff.mpr c11
                subst c11
                have H1 : (if x7_1.size + ((rd_T124 t101 x21_1).f0).size ≤ 9223372036854775807 then (rdata_Lower.l0 k1 (x7_1 ++ ((rd_T124 t101 x21_1).f0)) t101 (t101.length : Int) (wrap64 (x21_1 + 1))) else (none)) = some r := by rw [if_neg (show ¬ (false = true) by decide)] at H; exact H
                clear H
                have H := H1
                clear H1
                by_cases c18 : x7_1.size + ((rd_T124 t101 x21_1).f0).size ≤ 9223372036854775807
                · rw [if_pos c18] at H
                  have c18b0 := eq_true c18
                  have c18b1 : decide (x7_1.size + ((rd_T124 t101 x21_1).f0).size ≤ 9223372036854775807) = true := decide_eq_true c18
                  try have c18b2 : (9223372036854775807 < x7_1.size + ((rd_T124 t101 x21_1).f0).size) = False := eq_false (Nat.not_lt.2 c18)
                  have H' := Aside0.mk H
                  clear H
                  have p105 : 0 ≤ (x21_1 : Int) := of_decide_eq_true (by first | (with_reducible assumption) | assumption)
                  have q105 : x21_1 < (t101.length : Int) := of_decide_eq_true (by first | (with_reducible assumption) | assumption)
                  obtain ⟨ad105, e105, hx105_0, hx105_1⟩ := at_T124 (Kd.R_reads' HO_19.out).2.2 x21_1 p105 q105
                  (try rw [← Nbq10.out] at hx105_1)
                  cases e105
                  replace p105 := eq_true p105
                  replace q105 := eq_true q105
                  go_wp2_with (first | ((with_reducible refine gate_dst (N := 9) rfl ?_); refine box_event ?hg (N := 9) ?hd (cs := #[.string (⟨#[]⟩ : ByteArray), .bool false]) (t := 124) ?hr ?_; (case hd => rfl); (case hg => rfl); (case hr => first | (go_simp; done) | (go_simp; rfl)); intro gb106 hg w19 hbox hb; have n0_ := Aside0.mk (Kd.R_below (Kd.R_elderB (by (with_reducible repeat (first | apply Kd.R_alloc | apply Kd.R_drewN | apply Kd.R_drew)); exact HO_19.out) gb106 (Nat.le_of_eq hg.symm)) hb); have n1_ := Aside0.mk (below_step (by repeat (first | (with_reducible first | exact HB.out | apply below_alloc | apply pw_below_drewN | apply below_drew1) | exact HB.out)) hb); have n2_ := Aside0.mk (hbox); have n3_ := Aside0.mk ((by rw [hg]; exact (below_size (by repeat (first | (with_reducible first | exact HB.out | apply below_alloc | apply pw_below_drewN | apply below_drew1) | exact HB.out))) : w.heap.size ≤ gb106)); have n4_ := Aside0.mk ((by rw [hg]; exact (below_size (by repeat (first | (with_reducible first | exact HB.out | apply below_alloc | apply pw_below_drewN | apply below_drew1) | exact HB.out))) : w.heap.size ≤ gb106)); clear HO_19; clear HB; have HO_19 := n0_; have HB := n1_; have BK106 := n2_; have GW106 := n3_; have GE106 := n4_; clear n0_ n1_ n2_ n3_ n4_; clear hb hbox hg; have hcz20_0 : w19.cell? ⟨gb106, 0, none⟩ = some (.string (⟨#[]⟩ : ByteArray)) := (blk_cell BK106.out 0).trans rfl; have hcz20_1 : w19.cell? ⟨gb106, 1, none⟩ = some (.bool false) := (blk_cell BK106.out 1).trans rfl; have hfz20_0 := blk_frozen BK106.out 0; have hfz20_1 := blk_frozen BK106.out 1))
                  go_roundg k1
                  case measure => have := HK1.out; omega
                  case rel => exact ⟨(x7_1 ++ ((rd_T124 t101 x21_1).f0)), (wrap64 (x21_1 + 1)), (by first | rfl | (simp; done) | (simp [*]; done)), (by first | rfl | (simp; done) | (simp [*]; done)), H', ⟨by have := HK1.out; omega⟩, ⟨by (with_reducible repeat (first | apply Kd.R_alloc | apply Kd.R_drewN | apply Kd.R_drew)); exact Kd.R_mono (Kd.R_far (p := ⟨gb106, 1, none⟩) (Kd.R_far (p := ⟨gb106, 0, none⟩) (Kd.R_mono HO_19.out (fun k_ hk => (⟨hk, hk.2⟩ : _ ∧ k_ ≠ gb106))) (fun _ hk => hk.2) (.string ((rd_T124 t101 x21_1).f0))) (fun _ hk => hk.2) (.bool false)) (fun _ hk => trivial)⟩, ⟨by repeat (first | (with_reducible first | exact HB.out | apply below_alloc | apply pw_below_drewN | apply below_drew1 | refine below_set ?_ GE106.out) | exact HB.out)⟩⟩
                · rw [if_neg c18] at H
                  exact absurd H (by simp)
            · rw [if_neg c9] at H
              exact absurd H (by simp)
          · rw [if_neg c8] at H
            exact absurd H (by simp)
        · rw [if_neg c7] at H
          have c7b0 : decide (x21_1 < (t101.length : Int)) = false := decide_eq_false c7
          clear c7
          obtain rfl := Option.some.inj H
          go_wp2
          go_ret
          exact ⟨by first | rfl | (simp [errW_none, errW_some] <;> rfl) | (simp [*, errW_none, errW_some] <;> rfl), by repeat (first | (with_reducible first | exact HB.out | apply below_alloc | apply pw_below_drewN | apply below_drew1) | exact HB.out)⟩
  · replace c4 := Bool.eq_false_iff.mpr c4
    subst c4
    have H1 : (some a1) = some r := by rw [if_neg (show ¬ (false = true) by decide)] at H; exact H
    clear H
    have H := H1
    clear H1
    obtain rfl := Option.some.inj H
    go_enter Try.func68, Try.ntmps68
    go_wp2_with (first | ((with_reducible refine gate_callee (f := 97) rfl ?_); refine goesL_ (some 13) rfl rfl Try.func97 (by kernel_rfl) rfl #[.int .i64 a0, .string a1] rfl (by (try simp only [List.map_toArray, List.map_cons, List.map_nil]); first | done | rfl | (simp only [List.length_drop, List.length_take]; rfl)) ?_; (with_reducible refine (rdata_split.calls a0 a1 t101 false _ A3.out).mono ?_); rintro e w21 ⟨v103, rfl, ho0, hb⟩; refine ⟨_, rfl, ?_⟩; have n0_ := Aside0.mk (Kd.R_lower ho0 (below_size (by repeat (first | (with_reducible first | exact HB.out | apply below_alloc | apply pw_below_drewN | apply below_drew1) | exact HB.out)))); have n1_ := Aside0.mk (below_step (by repeat (first | (with_reducible first | exact HB.out | apply below_alloc | apply pw_below_drewN | apply below_drew1) | exact HB.out)) hb); clear HB; have HO104 := n0_; have HB := n1_; clear n0_ n1_; (try clear hb); (try clear hb2); (try clear hk); (try clear hi); (try clear ho0)))
    go_ret
    exact ⟨by first | rfl | (simp [errW_none, errW_some] <;> rfl) | (simp [*, errW_none, errW_some] <;> rfl), by repeat (first | (with_reducible first | exact HB.out | apply below_alloc | apply pw_below_drewN | apply below_drew1) | exact HB.out)⟩

end Go.Proofs.Ytjjbhpbmfpodeaa.X
end
section
namespace Go.Proofs.Ytjjbhpbmfpodeaa.X
open Go.RowKit Go.Proofs.YtjjbhpbmfpodeaaW.PrintWords Go.Proofs.YtjjbhpbmfpodeaaW.PrintLast Go.Proofs.YtjjbhpbmfpodeaaW.PrintMore
attribute [local go_sem] max2_int min2_int max_two min_two max_three min_three max_four min_four   -- for this text's walks alone
set_option linter.unusedVariables false
set_option linter.unusedSimpArgs false

/-! ### name_Same: function 69 -/
def name_Same.f (a0 : ByteArray) (a1 : ByteArray) : Option (Bool) := (name_Check.f a0).bind fun t101 => (if t101 = 0 then ((name_Check.f a1).bind fun t102 => (if t102 = 0 then ((name_Lower.f a0).bind fun t103 => ((name_Lower.f a1).bind fun t104 => (some (t103.toList == t104.toList)))) else (some false))) else (some false))
set_option maxHeartbeats 8000000 in
set_option maxRecDepth 100000 in
theorem name_Same.calls (a0 : ByteArray) (a1 : ByteArray) (r : Bool) (w : World) (h : name_Same.f a0 a1 = some r) :
    Calls Try.prog 69 #[.string a0, .string a1] w fun e w' => e = .returned (.bool r) ∧ Below w.heap.size w w' := by
  have HB := Aside0.mk (Below.refl w.heap.size w)
  have H : ((name_Check.f a0).bind fun t101 => (if t101 = 0 then ((name_Check.f a1).bind fun t102 => (if t102 = 0 then ((name_Lower.f a0).bind fun t103 => ((name_Lower.f a1).bind fun t104 => (some (t103.toList == t104.toList)))) else (some false))) else (some false))) = some r := h
  clear h
  replace H := Option.bind_eq_some_iff.mp H
  obtain ⟨t101, A30, H⟩ := H
  replace H : (if t101 = 0 then ((name_Check.f a1).bind fun t102 => (if t102 = 0 then ((name_Lower.f a0).bind fun t103 => ((name_Lower.f a1).bind fun t104 => (some (t103.toList == t104.toList)))) else (some false))) else (some false)) = some r := H
  have A3 := Aside0.mk A30
  clear A30
  by_cases c4 : t101 = 0
  · rw [if_pos c4] at H
    have c4b0 : (t101 == 0) = true := beq_iff_eq.mpr c4
    have c4b1 : (t101 != 0) = false := bne_eq_false_iff_eq.mpr c4
    clear c4
    replace H := Option.bind_eq_some_iff.mp H
    obtain ⟨t102, A50, H⟩ := H
    replace H : (if t102 = 0 then ((name_Lower.f a0).bind fun t103 => ((name_Lower.f a1).bind fun t104 => (some (t103.toList == t104.toList)))) else (some false)) = some r := H
    have A5 := Aside0.mk A50
    clear A50
    by_cases c6 : t102 = 0
    · rw [if_pos c6] at H
      have c6b0 : (t102 == 0) = true := beq_iff_eq.mpr c6
      have c6b1 : (t102 != 0) = false := bne_eq_false_iff_eq.mpr c6
      clear c6
      replace H := Option.bind_eq_some_iff.mp H
      obtain ⟨t103, A70, H⟩ := H
      replace H : ((name_Lower.f a1).bind fun t104 => (some (t103.toList == t104.toList))) = some r := H
      have A7 := Aside0.mk A70
      clear A70
      replace H := Option.bind_eq_some_iff.mp H
      obtain ⟨t104, A80, H⟩ := H
      replace H : (some (t103.toList == t104.toList)) = some r := H
      have A8 := Aside0.mk A80
      clear A80
      obtain rfl := Option.some.inj H
      go_enter Try.func69, Try.ntmps69
      go_wp2_with (first | ((with_reducible refine gate_callee (f := 48) rfl ?_); refine goesL_ (some 6) rfl rfl Try.func48 (by kernel_rfl) rfl #[.string a0] rfl (by (try simp only [List.map_toArray, List.map_cons, List.map_nil]); first | done | rfl | (simp only [List.length_drop, List.length_take]; rfl)) ?_; (with_reducible refine (name_Check.calls a0 t101 _ A3.out).mono ?_); rintro e w9 ⟨rfl, hb⟩; refine ⟨_, rfl, ?_⟩; have n0_ := Aside0.mk (below_step (by repeat (first | (with_reducible first | exact HB.out | apply below_alloc | apply pw_below_drewN | apply below_drew1) | exact HB.out)) hb); clear HB; have HB := n0_; clear n0_; (try clear hb); (try clear hb2); (try clear hk); (try clear hi)) | (go_at_call 48; (with_reducible refine (name_Check.calls a1 t102 _ A5.out).mono ?_); rintro e w10 ⟨rfl, hb⟩; have n0_ := Aside0.mk (below_step (by repeat (first | (with_reducible first | exact HB.out | apply below_alloc | apply pw_below_drewN | apply below_drew1) | exact HB.out)) hb); clear HB; have HB := n0_; clear n0_; (try clear hb); (try clear hb2); (try clear hk); (try clear hi)) | (go_at_call 70; (with_reducible refine (name_Lower.calls a0 t103 _ A7.out).mono ?_); rintro e w11 ⟨rfl, hb⟩; have n0_ := Aside0.mk (below_step (by repeat (first | (with_reducible first | exact HB.out | apply below_alloc | apply pw_below_drewN | apply below_drew1) | exact HB.out)) hb); clear HB; have HB := n0_; clear n0_; (try clear hb); (try clear hb2); (try clear hk); (try clear hi)) | (go_at_call 70; (with_reducible refine (name_Lower.calls a1 t104 _ A8.out).mono ?_); rintro e w12 ⟨rfl, hb⟩; have n0_ := Aside0.mk (below_step (by repeat (first | (with_reducible first | exact HB.out | apply below_alloc | apply pw_below_drewN | apply below_drew1) | exact HB.out)) hb); clear HB; have HB := n0_; clear n0_; (try clear hb); (try clear hb2); (try clear hk); (try clear hi)))
      go_ret
      exact ⟨by first | rfl | (simp [errW_none, errW_some] <;> rfl) | (simp [*, errW_none, errW_some] <;> rfl), by repeat (first | (with_reducible first | exact HB.out | apply below_alloc | apply pw_below_drewN | apply below_drew1) | exact HB.out)⟩
    · rw [if_neg c6] at H
      have c6b0 : (t102 == 0) = false := beq_eq_false_iff_ne.mpr c6
      have c6b1 : (t102 != 0) = true := bne_iff_ne.mpr c6
      obtain rfl := Option.some.inj H
      go_enter Try.func69, Try.ntmps69
      go_wp2_with (first | ((with_reducible refine gate_callee (f := 48) rfl ?_); refine goesL_ (some 6) rfl rfl Try.func48 (by kernel_rfl) rfl #[.string a0] rfl (by (try simp only [List.map_toArray, List.map_cons, List.map_nil]); first | done | rfl | (simp only [List.length_drop, List.length_take]; rfl)) ?_; (with_reducible refine (name_Check.calls a0 t101 _ A3.out).mono ?_); rintro e w13 ⟨rfl, hb⟩; refine ⟨_, rfl, ?_⟩; have n0_ := Aside0.mk (below_step (by repeat (first | (with_reducible first | exact HB.out | apply below_alloc | apply pw_below_drewN | apply below_drew1) | exact HB.out)) hb); clear HB; have HB := n0_; clear n0_; (try clear hb); (try clear hb2); (try clear hk); (try clear hi)) | (go_at_call 48; (with_reducible refine (name_Check.calls a1 t102 _ A5.out).mono ?_); rintro e w14 ⟨rfl, hb⟩; have n0_ := Aside0.mk (below_step (by repeat (first | (with_reducible first | exact HB.out | apply below_alloc | apply pw_below_drewN | apply below_drew1) | exact HB.out)) hb); clear HB; have HB := n0_; clear n0_; (try clear hb); (try clear hb2); (try clear hk); (try clear hi)))
      go_ret
      exact ⟨by first | rfl | (simp [errW_none, errW_some] <;> rfl) | (simp [*, errW_none, errW_some] <;> rfl), by repeat (first | (with_reducible first | exact HB.out | apply below_alloc | apply pw_below_drewN | apply below_drew1) | exact HB.out)⟩
  · rw [if_neg c4] at H
    have c4b0 : (t101 == 0) = false := beq_eq_false_iff_ne.mpr c4
    have c4b1 : (t101 != 0) = true := bne_iff_ne.mpr c4
    obtain rfl := Option.some.inj H
    go_enter Try.func69, Try.ntmps69
    go_wp2_with (first | ((with_reducible refine gate_callee (f := 48) rfl ?_); refine goesL_ (some 6) rfl rfl Try.func48 (by kernel_rfl) rfl #[.string a0] rfl (by (try simp only [List.map_toArray, List.map_cons, List.map_nil]); first | done | rfl | (simp only [List.length_drop, List.length_take]; rfl)) ?_; (with_reducible refine (name_Check.calls a0 t101 _ A3.out).mono ?_); rintro e w15 ⟨rfl, hb⟩; refine ⟨_, rfl, ?_⟩; have n0_ := Aside0.mk (below_step (by repeat (first | (with_reducible first | exact HB.out | apply below_alloc | apply pw_below_drewN | apply below_drew1) | exact HB.out)) hb); clear HB; have HB := n0_; clear n0_; (try clear hb); (try clear hb2); (try clear hk); (try clear hi)))
    go_ret
    exact ⟨by first | rfl | (simp [errW_none, errW_some] <;> rfl) | (simp [*, errW_none, errW_some] <;> rfl), by repeat (first | (with_reducible first | exact HB.out | apply below_alloc | apply pw_below_drewN | apply below_drew1) | exact HB.out)⟩

end Go.Proofs.Ytjjbhpbmfpodeaa.X
end
section
namespace Go.Proofs.Ytjjbhpbmfpodeaa.X
open Go.RowKit Go.Proofs.YtjjbhpbmfpodeaaW.PrintWords Go.Proofs.YtjjbhpbmfpodeaaW.PrintLast Go.Proofs.YtjjbhpbmfpodeaaW.PrintMore
attribute [local go_sem] max2_int min2_int max_two min_two max_three min_three max_four min_four   -- for this text's walks alone
set_option linter.unusedVariables false
set_option linter.unusedSimpArgs false

/-! ### ostiarylaw06_RdataLower: function 19 -/
def ostiarylaw06_RdataLower.j0 : Nat → Int → ByteArray → Bool → ByteArray → Bool → Option (Bool)
  | 0, _, _, _, _, _ => none
  | k + 1, x0, x1, x5, x6, x39 => if x39 = true then (some false) else ((rdata_Target.f k x0 x1).bind fun bt106 => ((rdata_Target.f k x0 x6).bind fun bt108 => (if x5 = true then (if (bt106.2 == bt108.2) = true then (if bt106.2 = true then ((name_Same.f bt106.1 bt108.1).bind fun t110 => (if t110 = true then ((name_Lower.f bt106.1).bind fun t111 => (some (bt108.1.toList == t111.toList))) else (some false))) else (some true)) else (some false)) else (some false))))
def ostiarylaw06_RdataLower.f (k : Nat) (a0 : Int) (a1 : ByteArray) : Option (Bool) := (ostiarylaw06_awake.f k).bind fun t101 => (if (a1.size : Int) > 2000 then (some t101) else ((rdata_Lower.f k a0 a1).bind fun t102 => (if (t102.size : Int) = (a1.size : Int) then ((rdata_Check.f k a0 t102).bind fun t103 => ((rdata_Check.f k a0 a1).bind fun t104 => (if t103 = t104 then ((rdata_Lower.f k a0 t102).bind fun t105 => (ostiarylaw06_RdataLower.j0 k a0 a1 t101 t102 (t105.toList != t102.toList))) else (ostiarylaw06_RdataLower.j0 k a0 a1 t101 t102 true)))) else (ostiarylaw06_RdataLower.j0 k a0 a1 t101 t102 true))))
theorem ostiarylaw06_RdataLower.mono_l : ∀ k, (∀ y0 y1 y2 y3 y4, LeO (ostiarylaw06_RdataLower.j0 k y0 y1 y2 y3 y4) (ostiarylaw06_RdataLower.j0 (k + 1) y0 y1 y2 y3 y4))
  | 0 => fun _ _ _ _ _ r h => by simp [ostiarylaw06_RdataLower.j0] at h
  | k + 1 => by
    have ih0 := ostiarylaw06_RdataLower.mono_l k
    · intro y0 y1 y2 y3 y4
      unfold ostiarylaw06_RdataLower.j0
      repeat' first
      | (with_reducible exact ih0 _ _ _ _ _)
      | (with_reducible exact ostiarylaw06_awake.mono _)
      | (with_reducible exact rdata_Check.mono _ _ _)
      | (with_reducible exact rdata_Lower.mono _ _ _)
      | (with_reducible exact rdata_Target.mono _ _ _)
      | (with_reducible exact LeO.refl _)
      | (with_reducible exact LeO.none _)
      | (with_reducible refine LeO.ite ?_ ?_)
      | (with_reducible refine LeO.bind ?_ (fun _ => ?_))
      | exact ih0 _ _ _ _ _
      | exact ostiarylaw06_awake.mono _
      | exact rdata_Check.mono _ _ _
      | exact rdata_Lower.mono _ _ _
      | exact rdata_Target.mono _ _ _
      | exact LeO.none _
      | refine LeO.ite ?_ ?_
      | refine LeO.bind ?_ (fun _ => ?_)
theorem ostiarylaw06_RdataLower.mono : ∀ a0 a1 k, LeO (ostiarylaw06_RdataLower.f k a0 a1) (ostiarylaw06_RdataLower.f (k + 1) a0 a1) := by
  intro a0 a1 k
  have ih0 := ostiarylaw06_RdataLower.mono_l k
  unfold ostiarylaw06_RdataLower.f
  repeat' first
      | (with_reducible exact ih0 _ _ _ _ _)
      | (with_reducible exact ostiarylaw06_awake.mono _)
      | (with_reducible exact rdata_Check.mono _ _ _)
      | (with_reducible exact rdata_Lower.mono _ _ _)
      | (with_reducible exact rdata_Target.mono _ _ _)
      | (with_reducible exact LeO.refl _)
      | (with_reducible exact LeO.none _)
      | (with_reducible refine LeO.ite ?_ ?_)
      | (with_reducible refine LeO.bind ?_ (fun _ => ?_))
      | exact ih0 _ _ _ _ _
      | exact ostiarylaw06_awake.mono _
      | exact rdata_Check.mono _ _ _
      | exact rdata_Lower.mono _ _ _
      | exact rdata_Target.mono _ _ _
      | exact LeO.none _
      | refine LeO.ite ?_ ?_
      | refine LeO.bind ?_ (fun _ => ?_)
set_option maxHeartbeats 8000000 in
set_option maxRecDepth 100000 in
theorem ostiarylaw06_RdataLower.calls (k : Nat) (a0 : Int) (a1 : ByteArray) (r : Bool) (w : World) (h : ostiarylaw06_RdataLower.f k a0 a1 = some r) :
    Calls Try.prog 19 #[.int .i64 a0, .string a1] w fun e w' => e = .returned (.bool r) ∧ Below w.heap.size w w' := by
  have HB := Aside0.mk (Below.refl w.heap.size w)
  have H : ((ostiarylaw06_awake.f k).bind fun t101 => (if (a1.size : Int) > 2000 then (some t101) else ((rdata_Lower.f k a0 a1).bind fun t102 => (if (t102.size : Int) = (a1.size : Int) then ((rdata_Check.f k a0 t102).bind fun t103 => ((rdata_Check.f k a0 a1).bind fun t104 => (if t103 = t104 then ((rdata_Lower.f k a0 t102).bind fun t105 => (ostiarylaw06_RdataLower.j0 k a0 a1 t101 t102 (t105.toList != t102.toList))) else (ostiarylaw06_RdataLower.j0 k a0 a1 t101 t102 true)))) else (ostiarylaw06_RdataLower.j0 k a0 a1 t101 t102 true))))) = some r := h
  clear h
  replace H := Option.bind_eq_some_iff.mp H
  obtain ⟨t101, A30, H⟩ := H
  replace H : (if (a1.size : Int) > 2000 then (some t101) else ((rdata_Lower.f k a0 a1).bind fun t102 => (if (t102.size : Int) = (a1.size : Int) then ((rdata_Check.f k a0 t102).bind fun t103 => ((rdata_Check.f k a0 a1).bind fun t104 => (if t103 = t104 then ((rdata_Lower.f k a0 t102).bind fun t105 => (ostiarylaw06_RdataLower.j0 k a0 a1 t101 t102 (t105.toList != t102.toList))) else (ostiarylaw06_RdataLower.j0 k a0 a1 t101 t102 true)))) else (ostiarylaw06_RdataLower.j0 k a0 a1 t101 t102 true)))) = some r := H
  have A3 := Aside0.mk A30
  clear A30
  by_cases c4 : (a1.size : Int) > 2000
  · rw [if_pos c4] at H
    have c4b0 : decide (2000 < (a1.size : Int)) = true := decide_eq_true c4
    have c4b1 : decide (2000 < a1.size) = true := decide_eq_true (by omega)
    clear c4
    obtain rfl := Option.some.inj H
    go_enter Try.func19, Try.ntmps19
    go_wp2_with (first | ((with_reducible refine gate_callee (f := 56) rfl ?_); refine goesL_ (some 11) rfl rfl Try.func56 (by kernel_rfl) rfl #[] rfl (by (try simp only [List.map_toArray, List.map_cons, List.map_nil]); first | done | rfl | (simp only [List.length_drop, List.length_take]; rfl)) ?_; (with_reducible refine (ostiarylaw06_awake.calls k  t101 _ A3.out).mono ?_); rintro e w5 ⟨rfl, hb⟩; refine ⟨_, rfl, ?_⟩; have n0_ := Aside0.mk (below_step (by repeat (first | (with_reducible first | exact HB.out | apply below_alloc | apply pw_below_drewN | apply below_drew1) | exact HB.out)) hb); clear HB; have HB := n0_; clear n0_; (try clear hb); (try clear hb2); (try clear hk); (try clear hi)))
    go_ret
    exact ⟨by first | rfl | (simp [errW_none, errW_some] <;> rfl) | (simp [*, errW_none, errW_some] <;> rfl), by repeat (first | (with_reducible first | exact HB.out | apply below_alloc | apply pw_below_drewN | apply below_drew1) | exact HB.out)⟩
  · rw [if_neg c4] at H
    have c4b0 : decide (2000 < (a1.size : Int)) = false := decide_eq_false c4
    have c4b1 : decide (2000 < a1.size) = false := decide_eq_false (by omega)
    clear c4
    replace H := Option.bind_eq_some_iff.mp H
    obtain ⟨t102, A60, H⟩ := H
    replace H : (if (t102.size : Int) = (a1.size : Int) then ((rdata_Check.f k a0 t102).bind fun t103 => ((rdata_Check.f k a0 a1).bind fun t104 => (if t103 = t104 then ((rdata_Lower.f k a0 t102).bind fun t105 => (ostiarylaw06_RdataLower.j0 k a0 a1 t101 t102 (t105.toList != t102.toList))) else (ostiarylaw06_RdataLower.j0 k a0 a1 t101 t102 true)))) else (ostiarylaw06_RdataLower.j0 k a0 a1 t101 t102 true)) = some r := H
    have A6 := Aside0.mk A60
    clear A60
    have HC7 := Aside0.mk H
    clear H
    go_enter Try.func19, Try.ntmps19
    go_upto_region 5 with (first | ((with_reducible refine gate_callee (f := 56) rfl ?_); refine goesL_ (some 11) rfl rfl Try.func56 (by kernel_rfl) rfl #[] rfl (by (try simp only [List.map_toArray, List.map_cons, List.map_nil]); first | done | rfl | (simp only [List.length_drop, List.length_take]; rfl)) ?_; (with_reducible refine (ostiarylaw06_awake.calls k  t101 _ A3.out).mono ?_); rintro e w8 ⟨rfl, hb⟩; refine ⟨_, rfl, ?_⟩; have n0_ := Aside0.mk (below_step (by repeat (first | (with_reducible first | exact HB.out | apply below_alloc | apply pw_below_drewN | apply below_drew1) | exact HB.out)) hb); clear HB; have HB := n0_; clear n0_; (try clear hb); (try clear hb2); (try clear hk); (try clear hi)) | ((with_reducible refine gate_callee (f := 68) rfl ?_); refine goesL_ (some 18) rfl rfl Try.func68 (by kernel_rfl) rfl #[.int .i64 a0, .string a1] rfl (by (try simp only [List.map_toArray, List.map_cons, List.map_nil]); first | done | rfl | (simp only [List.length_drop, List.length_take]; rfl)) ?_; (with_reducible refine (rdata_Lower.calls k a0 a1 t102 _ A6.out).mono ?_); rintro e w9 ⟨rfl, hb⟩; refine ⟨_, rfl, ?_⟩; have n0_ := Aside0.mk (below_step (by repeat (first | (with_reducible first | exact HB.out | apply below_alloc | apply pw_below_drewN | apply below_drew1) | exact HB.out)) hb); clear HB; have HB := n0_; clear n0_; (try clear hb); (try clear hb2); (try clear hk); (try clear hi)))
    (try simp only [Act.put, List.setIfInBounds_toArray, List.set_cons_zero, List.set_cons_succ])
    go_cut [39] (fun v39 wc => ∃ (kq : Nat) (x39_6 : Bool), v39 = .bool x39_6 ∧ Aside0 (ostiarylaw06_RdataLower.j0 kq a0 a1 t101 t102 x39_6 = some r) ∧ Aside0 (kq ≤ k) ∧ Aside0 (Below w.heap.size w wc))
    case first =>
      have H := HC7.out
      clear HC7
      by_cases c10 : (t102.size : Int) = (a1.size : Int)
      · rw [if_pos c10] at H
        have c10b0 : ((t102.size : Int) == (a1.size : Int)) = true := beq_iff_eq.mpr c10
        have c10b1 : ((t102.size : Int) != (a1.size : Int)) = false := bne_eq_false_iff_eq.mpr c10
        have c10b2 : (t102.size == a1.size) = true := by first | simpa using c10 | (simp at c10 ⊢; omega)
        clear c10
        (first | rw [c10b0] | (simp only [i64_w, i32_w]; rw [c10b0]) | skip)
        replace H := Option.bind_eq_some_iff.mp H
        obtain ⟨t103, A110, H⟩ := H
        replace H : ((rdata_Check.f k a0 a1).bind fun t104 => (if t103 = t104 then ((rdata_Lower.f k a0 t102).bind fun t105 => (ostiarylaw06_RdataLower.j0 k a0 a1 t101 t102 (t105.toList != t102.toList))) else (ostiarylaw06_RdataLower.j0 k a0 a1 t101 t102 true))) = some r := H
        have A11 := Aside0.mk A110
        clear A110
        replace H := Option.bind_eq_some_iff.mp H
        obtain ⟨t104, A120, H⟩ := H
        replace H : (if t103 = t104 then ((rdata_Lower.f k a0 t102).bind fun t105 => (ostiarylaw06_RdataLower.j0 k a0 a1 t101 t102 (t105.toList != t102.toList))) else (ostiarylaw06_RdataLower.j0 k a0 a1 t101 t102 true)) = some r := H
        have A12 := Aside0.mk A120
        clear A120
        by_cases c13 : t103 = t104
        · rw [if_pos c13] at H
          have c13b0 : (t103 == t104) = true := beq_iff_eq.mpr c13
          have c13b1 : (t103 != t104) = false := bne_eq_false_iff_eq.mpr c13
          clear c13
          replace H := Option.bind_eq_some_iff.mp H
          obtain ⟨t105, A140, H⟩ := H
          replace H : (ostiarylaw06_RdataLower.j0 k a0 a1 t101 t102 (t105.toList != t102.toList)) = some r := H
          have A14 := Aside0.mk A140
          clear A140
          have H' := Aside0.mk H
          clear H
          go_wp2_with (first | (go_at_call 58; (with_reducible refine (rdata_Check.calls k a0 t102 t103 _ A11.out).mono ?_); rintro e w15 ⟨rfl, hb⟩; have n0_ := Aside0.mk (below_step (by repeat (first | (with_reducible first | exact HB.out | apply below_alloc | apply pw_below_drewN | apply below_drew1) | exact HB.out)) hb); clear HB; have HB := n0_; clear n0_; (try clear hb); (try clear hb2); (try clear hk); (try clear hi)) | (go_at_call 58; (with_reducible refine (rdata_Check.calls k a0 a1 t104 _ A12.out).mono ?_); rintro e w16 ⟨rfl, hb⟩; have n0_ := Aside0.mk (below_step (by repeat (first | (with_reducible first | exact HB.out | apply below_alloc | apply pw_below_drewN | apply below_drew1) | exact HB.out)) hb); clear HB; have HB := n0_; clear n0_; (try clear hb); (try clear hb2); (try clear hk); (try clear hi)) | (go_at_call 68; (with_reducible refine (rdata_Lower.calls k a0 t102 t105 _ A14.out).mono ?_); rintro e w17 ⟨rfl, hb⟩; have n0_ := Aside0.mk (below_step (by repeat (first | (with_reducible first | exact HB.out | apply below_alloc | apply pw_below_drewN | apply below_drew1) | exact HB.out)) hb); clear HB; have HB := n0_; clear n0_; (try clear hb); (try clear hb2); (try clear hk); (try clear hi)))
          go_meet
          case rel => exact ⟨_, ((t105.toList != t102.toList)), (by first | rfl | (simp; done) | (simp [*]; done)), H', ⟨by first | omega | exact Nat.le_refl _⟩, ⟨by repeat (first | (with_reducible first | exact HB.out | apply below_alloc | apply pw_below_drewN | apply below_drew1) | exact HB.out)⟩⟩
        · rw [if_neg c13] at H
          have c13b0 : (t103 == t104) = false := beq_eq_false_iff_ne.mpr c13
          have c13b1 : (t103 != t104) = true := bne_iff_ne.mpr c13
          have H' := Aside0.mk H
          clear H
          go_wp2_with (first | (go_at_call 58; (with_reducible refine (rdata_Check.calls k a0 t102 t103 _ A11.out).mono ?_); rintro e w18 ⟨rfl, hb⟩; have n0_ := Aside0.mk (below_step (by repeat (first | (with_reducible first | exact HB.out | apply below_alloc | apply pw_below_drewN | apply below_drew1) | exact HB.out)) hb); clear HB; have HB := n0_; clear n0_; (try clear hb); (try clear hb2); (try clear hk); (try clear hi)) | (go_at_call 58; (with_reducible refine (rdata_Check.calls k a0 a1 t104 _ A12.out).mono ?_); rintro e w19 ⟨rfl, hb⟩; have n0_ := Aside0.mk (below_step (by repeat (first | (with_reducible first | exact HB.out | apply below_alloc | apply pw_below_drewN | apply below_drew1) | exact HB.out)) hb); clear HB; have HB := n0_; clear n0_; (try clear hb); (try clear hb2); (try clear hk); (try clear hi)))
          go_meet
          case rel => exact ⟨_, (true), (by first | rfl | (simp; done) | (simp [*]; done)), H', ⟨by first | omega | exact Nat.le_refl _⟩, ⟨by repeat (first | (with_reducible first | exact HB.out | apply below_alloc | apply pw_below_drewN | apply below_drew1) | exact HB.out)⟩⟩
      · rw [if_neg c10] at H
        have c10b0 : ((t102.size : Int) == (a1.size : Int)) = false := beq_eq_false_iff_ne.mpr c10
        have c10b1 : ((t102.size : Int) != (a1.size : Int)) = true := bne_iff_ne.mpr c10
        have c10b2 : (t102.size == a1.size) = false := by first | simpa using c10 | (simp at c10 ⊢; omega)
        (first | rw [c10b0] | (simp only [i64_w, i32_w]; rw [c10b0]) | skip)
        have H' := Aside0.mk H
        clear H
        go_wp2
        go_meet
        case rel => exact ⟨_, (true), (by first | rfl | (simp; done) | (simp [*]; done)), H', ⟨by first | omega | exact Nat.le_refl _⟩, ⟨by repeat (first | (with_reducible first | exact HB.out | apply below_alloc | apply pw_below_drewN | apply below_drew1) | exact HB.out)⟩⟩
    case rest =>
      clear HC7
      try clear c1
      try clear p2
      try clear c4
      try clear c4b0
      try clear c4b1
      try clear c5
      try clear c6
      try clear c10
      try clear c10b0
      try clear c10b1
      try clear c10b2
      try clear c13
      try clear c13b0
      try clear c13b1
      try clear c19
      obtain ⟨kq, x39_6, rfl, HA, HJ6, HB⟩ := hcut
      cases kq with
      | zero => exact absurd HA.out (by simp [ostiarylaw06_RdataLower.j0])
      | succ kj6 =>
        have H := HA.out
        clear HA
        simp only [ostiarylaw06_RdataLower.j0] at H
        by_cases c20 : x39_6 = true
        · subst c20
          have H1 : (some false) = some r := by rw [if_pos rfl] at H; exact H
          clear H
          have H := H1
          clear H1
          obtain rfl := Option.some.inj H
          go_wp2
          go_ret
          exact ⟨by first | rfl | (simp [errW_none, errW_some] <;> rfl) | (simp [*, errW_none, errW_some] <;> rfl), by repeat (first | (with_reducible first | exact HB.out | apply below_alloc | apply pw_below_drewN | apply below_drew1) | exact HB.out)⟩
        · replace c20 := Bool.eq_false_iff.mpr c20
          subst c20
          have H1 : ((rdata_Target.f kj6 a0 a1).bind fun bt106 => ((rdata_Target.f kj6 a0 t102).bind fun bt108 => (if t101 = true then (if (bt106.2 == bt108.2) = true then (if bt106.2 = true then ((name_Same.f bt106.1 bt108.1).bind fun t110 => (if t110 = true then ((name_Lower.f bt106.1).bind fun t111 => (some (bt108.1.toList == t111.toList))) else (some false))) else (some true)) else (some false)) else (some false)))) = some r := by rw [if_neg (show ¬ (false = true) by decide)] at H; exact H
          clear H
          have H := H1
          clear H1
          replace H := Option.bind_eq_some_iff.mp H
          obtain ⟨⟨t106, t107⟩, A210, H⟩ := H
          replace H : ((rdata_Target.f kj6 a0 t102).bind fun bt108 => (if t101 = true then (if (t107 == bt108.2) = true then (if t107 = true then ((name_Same.f t106 bt108.1).bind fun t110 => (if t110 = true then ((name_Lower.f t106).bind fun t111 => (some (bt108.1.toList == t111.toList))) else (some false))) else (some true)) else (some false)) else (some false))) = some r := H
          have A21 := Aside0.mk A210
          clear A210
          replace H := Option.bind_eq_some_iff.mp H
          obtain ⟨⟨t108, t109⟩, A220, H⟩ := H
          replace H : (if t101 = true then (if (t107 == t109) = true then (if t107 = true then ((name_Same.f t106 t108).bind fun t110 => (if t110 = true then ((name_Lower.f t106).bind fun t111 => (some (t108.toList == t111.toList))) else (some false))) else (some true)) else (some false)) else (some false)) = some r := H
          have A22 := Aside0.mk A220
          clear A220
          by_cases c23 : t101 = true
          · subst c23
            have H1 : (if (t107 == t109) = true then (if t107 = true then ((name_Same.f t106 t108).bind fun t110 => (if t110 = true then ((name_Lower.f t106).bind fun t111 => (some (t108.toList == t111.toList))) else (some false))) else (some true)) else (some false)) = some r := by rw [if_pos rfl] at H; exact H
            clear H
            have H := H1
            clear H1
            by_cases c24 : (t107 == t109) = true
            · rw [if_pos c24] at H
              have c24b0 : (t107 == t109) = true := c24
              (try (have c24b1 : decide (t107 = t109) = true := by simpa using c24))
              (try (have c24b2 : (t107 == t109) = true := by simpa using c24))
              clear c24
              by_cases c25 : t107 = true
              · subst c25
                have H1 : ((name_Same.f t106 t108).bind fun t110 => (if t110 = true then ((name_Lower.f t106).bind fun t111 => (some (t108.toList == t111.toList))) else (some false))) = some r := by rw [if_pos rfl] at H; exact H
                clear H
                have H := H1
                clear H1
                replace H := Option.bind_eq_some_iff.mp H
                obtain ⟨t110, A260, H⟩ := H
                replace H : (if t110 = true then ((name_Lower.f t106).bind fun t111 => (some (t108.toList == t111.toList))) else (some false)) = some r := H
                have A26 := Aside0.mk A260
                clear A260
                by_cases c27 : t110 = true
                · subst c27
                  have H1 : ((name_Lower.f t106).bind fun t111 => (some (t108.toList == t111.toList))) = some r := by rw [if_pos rfl] at H; exact H
                  clear H
                  have H := H1
                  clear H1
                  replace H := Option.bind_eq_some_iff.mp H
                  obtain ⟨t111, A280, H⟩ := H
                  replace H : (some (t108.toList == t111.toList)) = some r := H
                  have A28 := Aside0.mk A280
                  clear A280
                  obtain rfl := Option.some.inj H
                  go_wp2_with (first | ((with_reducible refine gate_callee (f := 59) rfl ?_); refine goesL_ (some 43) rfl rfl Try.func59 (by kernel_rfl) rfl #[.int .i64 a0, .string a1] rfl (by (try simp only [List.map_toArray, List.map_cons, List.map_nil]); first | done | rfl | (simp only [List.length_drop, List.length_take]; rfl)) ?_; (with_reducible refine (rdata_Target.calls kj6 a0 a1 t106 true _ A21.out).mono ?_); rintro e w29 ⟨rfl, hb⟩; refine ⟨_, rfl, ?_⟩; have n0_ := Aside0.mk (below_step (by repeat (first | (with_reducible first | exact HB.out | apply below_alloc | apply pw_below_drewN | apply below_drew1) | exact HB.out)) hb); clear HB; have HB := n0_; clear n0_; (try clear hb); (try clear hb2); (try clear hk); (try clear hi)) | ((with_reducible refine gate_callee (f := 59) rfl ?_); refine goesL_ (some 49) rfl rfl Try.func59 (by kernel_rfl) rfl #[.int .i64 a0, .string t102] rfl (by (try simp only [List.map_toArray, List.map_cons, List.map_nil]); first | done | rfl | (simp only [List.length_drop, List.length_take]; rfl)) ?_; (with_reducible refine (rdata_Target.calls kj6 a0 t102 t108 t109 _ A22.out).mono ?_); rintro e w30 ⟨rfl, hb⟩; refine ⟨_, rfl, ?_⟩; have n0_ := Aside0.mk (below_step (by repeat (first | (with_reducible first | exact HB.out | apply below_alloc | apply pw_below_drewN | apply below_drew1) | exact HB.out)) hb); clear HB; have HB := n0_; clear n0_; (try clear hb); (try clear hb2); (try clear hk); (try clear hi)) | (go_at_call 69; (with_reducible refine (name_Same.calls t106 t108 true _ A26.out).mono ?_); rintro e w31 ⟨rfl, hb⟩; have n0_ := Aside0.mk (below_step (by repeat (first | (with_reducible first | exact HB.out | apply below_alloc | apply pw_below_drewN | apply below_drew1) | exact HB.out)) hb); clear HB; have HB := n0_; clear n0_; (try clear hb); (try clear hb2); (try clear hk); (try clear hi)) | (go_at_call 70; (with_reducible refine (name_Lower.calls t106 t111 _ A28.out).mono ?_); rintro e w32 ⟨rfl, hb⟩; have n0_ := Aside0.mk (below_step (by repeat (first | (with_reducible first | exact HB.out | apply below_alloc | apply pw_below_drewN | apply below_drew1) | exact HB.out)) hb); clear HB; have HB := n0_; clear n0_; (try clear hb); (try clear hb2); (try clear hk); (try clear hi)))
                  go_ret
                  exact ⟨by first | rfl | (simp [errW_none, errW_some] <;> rfl) | (simp [*, errW_none, errW_some] <;> rfl), by repeat (first | (with_reducible first | exact HB.out | apply below_alloc | apply pw_below_drewN | apply below_drew1) | exact HB.out)⟩
                · replace c27 := Bool.eq_false_iff.mpr c27
                  subst c27
                  have H1 : (some false) = some r := by rw [if_neg (show ¬ (false = true) by decide)] at H; exact H
                  clear H
                  have H := H1
                  clear H1
                  obtain rfl := Option.some.inj H
                  go_wp2_with (first | ((with_reducible refine gate_callee (f := 59) rfl ?_); refine goesL_ (some 43) rfl rfl Try.func59 (by kernel_rfl) rfl #[.int .i64 a0, .string a1] rfl (by (try simp only [List.map_toArray, List.map_cons, List.map_nil]); first | done | rfl | (simp only [List.length_drop, List.length_take]; rfl)) ?_; (with_reducible refine (rdata_Target.calls kj6 a0 a1 t106 true _ A21.out).mono ?_); rintro e w33 ⟨rfl, hb⟩; refine ⟨_, rfl, ?_⟩; have n0_ := Aside0.mk (below_step (by repeat (first | (with_reducible first | exact HB.out | apply below_alloc | apply pw_below_drewN | apply below_drew1) | exact HB.out)) hb); clear HB; have HB := n0_; clear n0_; (try clear hb); (try clear hb2); (try clear hk); (try clear hi)) | ((with_reducible refine gate_callee (f := 59) rfl ?_); refine goesL_ (some 49) rfl rfl Try.func59 (by kernel_rfl) rfl #[.int .i64 a0, .string t102] rfl (by (try simp only [List.map_toArray, List.map_cons, List.map_nil]); first | done | rfl | (simp only [List.length_drop, List.length_take]; rfl)) ?_; (with_reducible refine (rdata_Target.calls kj6 a0 t102 t108 t109 _ A22.out).mono ?_); rintro e w34 ⟨rfl, hb⟩; refine ⟨_, rfl, ?_⟩; have n0_ := Aside0.mk (below_step (by repeat (first | (with_reducible first | exact HB.out | apply below_alloc | apply pw_below_drewN | apply below_drew1) | exact HB.out)) hb); clear HB; have HB := n0_; clear n0_; (try clear hb); (try clear hb2); (try clear hk); (try clear hi)) | (go_at_call 69; (with_reducible refine (name_Same.calls t106 t108 false _ A26.out).mono ?_); rintro e w35 ⟨rfl, hb⟩; have n0_ := Aside0.mk (below_step (by repeat (first | (with_reducible first | exact HB.out | apply below_alloc | apply pw_below_drewN | apply below_drew1) | exact HB.out)) hb); clear HB; have HB := n0_; clear n0_; (try clear hb); (try clear hb2); (try clear hk); (try clear hi)))
                  go_ret
                  exact ⟨by first | rfl | (simp [errW_none, errW_some] <;> rfl) | (simp [*, errW_none, errW_some] <;> rfl), by repeat (first | (with_reducible first | exact HB.out | apply below_alloc | apply pw_below_drewN | apply below_drew1) | exact HB.out)⟩
              · replace c25 := Bool.eq_false_iff.mpr c25
                subst c25
                have H1 : (some true) = some r := by rw [if_neg (show ¬ (false = true) by decide)] at H; exact H
                clear H
                have H := H1
                clear H1
                obtain rfl := Option.some.inj H
                go_wp2_with (first | ((with_reducible refine gate_callee (f := 59) rfl ?_); refine goesL_ (some 43) rfl rfl Try.func59 (by kernel_rfl) rfl #[.int .i64 a0, .string a1] rfl (by (try simp only [List.map_toArray, List.map_cons, List.map_nil]); first | done | rfl | (simp only [List.length_drop, List.length_take]; rfl)) ?_; (with_reducible refine (rdata_Target.calls kj6 a0 a1 t106 false _ A21.out).mono ?_); rintro e w36 ⟨rfl, hb⟩; refine ⟨_, rfl, ?_⟩; have n0_ := Aside0.mk (below_step (by repeat (first | (with_reducible first | exact HB.out | apply below_alloc | apply pw_below_drewN | apply below_drew1) | exact HB.out)) hb); clear HB; have HB := n0_; clear n0_; (try clear hb); (try clear hb2); (try clear hk); (try clear hi)) | ((with_reducible refine gate_callee (f := 59) rfl ?_); refine goesL_ (some 49) rfl rfl Try.func59 (by kernel_rfl) rfl #[.int .i64 a0, .string t102] rfl (by (try simp only [List.map_toArray, List.map_cons, List.map_nil]); first | done | rfl | (simp only [List.length_drop, List.length_take]; rfl)) ?_; (with_reducible refine (rdata_Target.calls kj6 a0 t102 t108 t109 _ A22.out).mono ?_); rintro e w37 ⟨rfl, hb⟩; refine ⟨_, rfl, ?_⟩; have n0_ := Aside0.mk (below_step (by repeat (first | (with_reducible first | exact HB.out | apply below_alloc | apply pw_below_drewN | apply below_drew1) | exact HB.out)) hb); clear HB; have HB := n0_; clear n0_; (try clear hb); (try clear hb2); (try clear hk); (try clear hi)))
                go_ret
                exact ⟨by first | rfl | (simp [errW_none, errW_some] <;> rfl) | (simp [*, errW_none, errW_some] <;> rfl), by repeat (first | (with_reducible first | exact HB.out | apply below_alloc | apply pw_below_drewN | apply below_drew1) | exact HB.out)⟩
            · rw [if_neg c24] at H
              have c24b0 : (t107 == t109) = false := by simpa using c24
              (try (have c24b1 : decide (t107 = t109) = false := by simpa using c24))
              (try (have c24b2 : (t107 == t109) = false := by simpa using c24))
              (try (have c24b3 : ¬ (t107 = t109) := by simpa using c24))
              clear c24
              obtain rfl := Option.some.inj H
              go_wp2_with (first | ((with_reducible refine gate_callee (f := 59) rfl ?_); refine goesL_ (some 43) rfl rfl Try.func59 (by kernel_rfl) rfl #[.int .i64 a0, .string a1] rfl (by (try simp only [List.map_toArray, List.map_cons, List.map_nil]); first | done | rfl | (simp only [List.length_drop, List.length_take]; rfl)) ?_; (with_reducible refine (rdata_Target.calls kj6 a0 a1 t106 t107 _ A21.out).mono ?_); rintro e w38 ⟨rfl, hb⟩; refine ⟨_, rfl, ?_⟩; have n0_ := Aside0.mk (below_step (by repeat (first | (with_reducible first | exact HB.out | apply below_alloc | apply pw_below_drewN | apply below_drew1) | exact HB.out)) hb); clear HB; have HB := n0_; clear n0_; (try clear hb); (try clear hb2); (try clear hk); (try clear hi)) | ((with_reducible refine gate_callee (f := 59) rfl ?_); refine goesL_ (some 49) rfl rfl Try.func59 (by kernel_rfl) rfl #[.int .i64 a0, .string t102] rfl (by (try simp only [List.map_toArray, List.map_cons, List.map_nil]); first | done | rfl | (simp only [List.length_drop, List.length_take]; rfl)) ?_; (with_reducible refine (rdata_Target.calls kj6 a0 t102 t108 t109 _ A22.out).mono ?_); rintro e w39 ⟨rfl, hb⟩; refine ⟨_, rfl, ?_⟩; have n0_ := Aside0.mk (below_step (by repeat (first | (with_reducible first | exact HB.out | apply below_alloc | apply pw_below_drewN | apply below_drew1) | exact HB.out)) hb); clear HB; have HB := n0_; clear n0_; (try clear hb); (try clear hb2); (try clear hk); (try clear hi)))
              go_ret
              exact ⟨by first | rfl | (simp [errW_none, errW_some] <;> rfl) | (simp [*, errW_none, errW_some] <;> rfl), by repeat (first | (with_reducible first | exact HB.out | apply below_alloc | apply pw_below_drewN | apply below_drew1) | exact HB.out)⟩
          · replace c23 := Bool.eq_false_iff.mpr c23
            subst c23
            have H1 : (some false) = some r := by rw [if_neg (show ¬ (false = true) by decide)] at H; exact H
            clear H
            have H := H1
            clear H1
            obtain rfl := Option.some.inj H
            go_wp2_with (first | ((with_reducible refine gate_callee (f := 59) rfl ?_); refine goesL_ (some 43) rfl rfl Try.func59 (by kernel_rfl) rfl #[.int .i64 a0, .string a1] rfl (by (try simp only [List.map_toArray, List.map_cons, List.map_nil]); first | done | rfl | (simp only [List.length_drop, List.length_take]; rfl)) ?_; (with_reducible refine (rdata_Target.calls kj6 a0 a1 t106 t107 _ A21.out).mono ?_); rintro e w40 ⟨rfl, hb⟩; refine ⟨_, rfl, ?_⟩; have n0_ := Aside0.mk (below_step (by repeat (first | (with_reducible first | exact HB.out | apply below_alloc | apply pw_below_drewN | apply below_drew1) | exact HB.out)) hb); clear HB; have HB := n0_; clear n0_; (try clear hb); (try clear hb2); (try clear hk); (try clear hi)) | ((with_reducible refine gate_callee (f := 59) rfl ?_); refine goesL_ (some 49) rfl rfl Try.func59 (by kernel_rfl) rfl #[.int .i64 a0, .string t102] rfl (by (try simp only [List.map_toArray, List.map_cons, List.map_nil]); first | done | rfl | (simp only [List.length_drop, List.length_take]; rfl)) ?_; (with_reducible refine (rdata_Target.calls kj6 a0 t102 t108 t109 _ A22.out).mono ?_); rintro e w41 ⟨rfl, hb⟩; refine ⟨_, rfl, ?_⟩; have n0_ := Aside0.mk (below_step (by repeat (first | (with_reducible first | exact HB.out | apply below_alloc | apply pw_below_drewN | apply below_drew1) | exact HB.out)) hb); clear HB; have HB := n0_; clear n0_; (try clear hb); (try clear hb2); (try clear hk); (try clear hi)))
            go_ret
            exact ⟨by first | rfl | (simp [errW_none, errW_some] <;> rfl) | (simp [*, errW_none, errW_some] <;> rfl), by repeat (first | (with_reducible first | exact HB.out | apply below_alloc | apply pw_below_drewN | apply below_drew1) | exact HB.out)⟩

/-- THE ONE PURE STATEMENT of ostiarylaw06_RdataLower: yours. -/
def ostiarylaw06_RdataLower.Pure : Prop := ∀ (a0 : Int) (a1 : ByteArray), (Lit.int .i64 a0).wf = true → a1.size ≤ 140737488351232 → ∃ k, ostiarylaw06_RdataLower.f k a0 a1 = some true
theorem ostiarylaw06_RdataLower.walk (P : ostiarylaw06_RdataLower.Pure) (a0 : Int) (a1 : ByteArray) (w : World) (w0 : (Lit.int .i64 a0).wf = true) (w1 : a1.size ≤ 140737488351232) :
    Calls Try.prog 19 #[.int .i64 a0, .string a1] w fun e w' => e = .returned (.bool true) ∧ Below w.heap.size w w' := by
  obtain ⟨k, h⟩ := P a0 a1 w0 w1
  refine (ostiarylaw06_RdataLower.calls k a0 a1 true w h).mono ?_
  rintro e w' ⟨rfl, hd⟩
  exact ⟨rfl, hd⟩

end Go.Proofs.Ytjjbhpbmfpodeaa.X
end
section
namespace Go.Proofs.Ytjjbhpbmfpodeaa.PB
open Go.RowKit Go.Proofs.Ytjjbhpbmfpodeaa.X Go.Proofs.YtjjbhpbmfpodeaaW.PrintWords Go.Proofs.YtjjbhpbmfpodeaaW.PrintLast
set_option linter.unusedVariables false
set_option linter.unusedSimpArgs false

theorem awake6_1 : ostiarylaw06_awake.f 1 = some true := by kernel_rfl
theorem awake6 {k : Nat} (hk : 1 ≤ k) : ostiarylaw06_awake.f k = some true := leO_le ostiarylaw06_awake.mono hk _ awake6_1

theorem check_k (k : Nat) (t : Int) (s : ByteArray) : rdata_Check.f (k + 1) t s = rdata_Check.f 1 t s := by
  unfold rdata_Check.f
  simp only [rdata_Check.j0]
theorem check_zero {t : Int} {s : ByteArray} (h : rdata_Check.f 1 t s = some 0) : 0 ≤ t ∧ t ≤ 65535 ∧ s.size ≤ 65535 ∧ (splitR t s).2 = true ∧ rdata_split.f t s = some (splitR t s) := by
  unfold rdata_Check.f at h
  by_cases h1 : t < 0
  · rw [if_pos h1, rdata_Check.j0, if_pos rfl] at h; simp at h
  rw [if_neg h1] at h
  by_cases h2 : t > 65535
  · rw [decide_eq_true h2, rdata_Check.j0, if_pos rfl] at h; simp at h
  rw [decide_eq_false h2, rdata_Check.j0, if_neg (by decide)] at h
  by_cases h3 : (s.size : Int) > 65535
  · rw [if_pos h3] at h; simp at h
  rw [if_neg h3] at h
  have hf : rdata_split.f t s = some (splitR t s) := by
    unfold rdata_split.f
    rw [if_pos ⟨WalkArith.wf_i64 (by omega), by omega⟩]
  rw [hf] at h
  simp only [Option.bind_some] at h
  by_cases h4 : (splitR t s).2 = true
  · exact ⟨by omega, by omega, by omega, h4, hf⟩
  · rw [if_neg h4] at h; simp at h
theorem check_any {t : Int} {s : ByteArray} (h0 : 0 ≤ t) (h1 : t ≤ 65535) (h2 : s.size ≤ 65535) (h3 : partsL t = none) : rdata_Check.f 1 t s = some 0 := by
  unfold rdata_Check.f
  rw [if_neg (by omega), decide_eq_false (by omega), rdata_Check.j0, if_neg (by decide), if_neg (by omega)]
  unfold rdata_split.f splitR
  rw [if_pos ⟨WalkArith.wf_i64 (by omega), by omega⟩, h3]
  rfl

theorem firstL_check {s : ByteArray} : ∀ (k : Nat) (i : Int) {m : Int}, 0 ≤ i → firstL k s i = some m → name_Check.f (s.extract 0 m.toNat) = some 0
  | 0, i, m, _, h => by cases h
  | k + 1, i, m, h0, h => by
    rw [firstL] at h
    have hb := bt_range s i
    by_cases h1 : i < (s.size : Int) ∧ i < 255
    · rw [if_pos h1] at h
      by_cases h2 : bt s i = 0
      · rw [if_pos h2] at h
        by_cases h3 : name_Check.f (s.extract 0 (i + 1).toNat) = some 0
        · rw [if_pos h3] at h; injection h with h; subst h; exact h3
        · rw [if_neg h3] at h; cases h
      · rw [if_neg h2] at h; exact firstL_check k _ (by omega) h
    · rw [if_neg h1] at h; cases h
theorem firstN_check {s : ByteArray} {m : Int} (h : firstN s = some m) : name_Check.f (s.extract 0 m.toNat) = some 0 := firstL_check 256 0 (by omega) h

theorem one_name {s : ByteArray} (h : (spAns (splitGo [⟨0, true, false⟩] s [])).2 = true) : ∃ n, (spAns (splitGo [⟨0, true, false⟩] s [])).1 = [⟨n, true⟩] ∧ name_Check.f n = some 0 := by
  simp only [splitGo, Bool.false_eq_true, if_false, if_true] at h ⊢
  cases hf : firstN s with
  | none => rw [hf] at h; cases h
  | some m => exact ⟨_, rfl, firstN_check hf⟩
theorem mx_name {s : ByteArray} (h : (spAns (splitGo [⟨2, false, false⟩, ⟨0, true, false⟩] s [])).2 = true) : ∃ x n, (spAns (splitGo [⟨2, false, false⟩, ⟨0, true, false⟩] s [])).1 = [x, ⟨n, true⟩] ∧ name_Check.f n = some 0 := by
  simp only [splitGo, Bool.false_eq_true, if_false, if_true] at h ⊢
  by_cases h2 : (s.size : Int) < 2
  · simp [h2, spAns] at h
  · simp only [h2, if_false] at h ⊢
    cases hf : firstN (s.extract (2 : Int).toNat s.size) with
    | none => rw [hf] at h; cases h
    | some m => exact ⟨_, _, rfl, firstN_check hf⟩
theorem target_spec (k : Nat) {t : Int} {s : ByteArray} (hs : s.size ≤ 100000000000) : ∃ n b, rdata_Target.f (k + 1) t s = some (n, b) ∧ (b = true → name_Check.f n = some 0 ∧ rdata_Check.f 1 t s = some 0) := by
  have key : ∀ t : Int, (t = 2 ∨ t = 5 ∨ t = 12) → partsL t = some [⟨0, true, false⟩] := by rintro t (rfl | rfl | rfl) <;> rfl
  have hw1 : wrap64 ((1 : Int) - 1) = 0 := by unfold wrap64; omega
  have hw2 : wrap64 ((2 : Int) - 1) = 1 := by unfold wrap64; omega
  have one : ∀ t : Int, (t = 2 ∨ t = 5 ∨ t = 12) → ∃ n b, ((rdata_Check.f (k + 1) t s).bind fun t101 => (if t101 = 0 then ((rdata_split.f t s).bind fun bt102 => (if 0 ≤ (wrap64 ((bt102.1.length : Int) - 1)) then (if (wrap64 ((bt102.1.length : Int) - 1)) < (bt102.1.length : Int) then (some ((rd_T124 bt102.1 (wrap64 ((bt102.1.length : Int) - 1))).f0, true)) else (none)) else (none))) else (some ((⟨#[]⟩ : ByteArray), false)))) = some (n, b) ∧ (b = true → name_Check.f n = some 0 ∧ rdata_Check.f 1 t s = some 0) := by
    intro t ht
    rw [check_k]
    obtain ⟨c, hc⟩ := check_of (t := t) (by omega) (by omega) hs
    rw [hc]
    simp only [Option.bind_some]
    by_cases h0 : c = 0
    · subst h0
      rw [if_pos rfl]
      obtain ⟨_, _, _, h4, h5⟩ := check_zero hc
      rw [h5]
      unfold splitR at h4 ⊢
      rw [key t ht] at h4 ⊢
      obtain ⟨n, hn, hch⟩ := one_name h4
      simp only [Option.bind_some]
      rw [hn]
      simp only [List.length_cons, List.length_nil, Nat.zero_add, Int.ofNat_one]
      rw [hw1, if_pos (by decide), if_pos (by decide)]
      exact ⟨_, _, rfl, fun _ => ⟨hch, trivial⟩⟩
    · rw [if_neg h0]; exact ⟨_, _, rfl, fun h => by cases h⟩
  unfold rdata_Target.f
  by_cases h2 : t = 2
  · rw [if_pos h2]; exact one t (.inl h2)
  rw [if_neg h2]
  by_cases h5 : t = 5
  · rw [if_pos h5]; exact one t (.inr (.inl h5))
  rw [if_neg h5]
  by_cases h12 : t = 12
  · rw [if_pos h12]; exact one t (.inr (.inr h12))
  rw [if_neg h12]
  by_cases h15 : t = 15
  · rw [if_pos h15, check_k]
    obtain ⟨c, hc⟩ := check_of (t := t) (by omega) (by omega) hs
    rw [hc]
    simp only [Option.bind_some]
    by_cases h0 : c = 0
    · subst h0
      rw [if_pos rfl]
      obtain ⟨_, _, _, h4, h5'⟩ := check_zero hc
      rw [h5']
      have hk : partsL t = some [⟨2, false, false⟩, ⟨0, true, false⟩] := by rw [h15]; rfl
      unfold splitR at h4 ⊢
      rw [hk] at h4 ⊢
      obtain ⟨x, n, hn, hch⟩ := mx_name h4
      simp only [Option.bind_some]
      rw [hn]
      simp only [List.length_cons, List.length_nil, Nat.zero_add, Nat.reduceAdd]
      rw [show ((2 : Nat) : Int) = 2 from rfl, hw2, if_pos (by decide), if_pos (by decide)]
      exact ⟨_, _, rfl, fun _ => ⟨hch, trivial⟩⟩
    · rw [if_neg h0]; exact ⟨_, _, rfl, fun h => by cases h⟩
  rw [if_neg h15]
  exact ⟨_, _, rfl, fun h => by cases h⟩

theorem rdGo_inr {l : List Int} {en a : Int} (hb : bytesB l = true) (hl : l.length ≤ 70000) (ha : 0 ≤ a) (hen : en ≤ l.length) : ∀ (ps : List S119) (i : Int) (out : ByteArray), (∀ p ∈ ps, 0 ≤ p.f0) → a ≤ i → i ≤ en →
    (∀ e f, rdGo l en a ps i out = .inr (e, f) → e ≠ 0 ∧ 0 ≤ f ∧ f ≤ l.length) ∧ (∀ o j, rdGo l en a ps i out = .inl (o, j) → o.size ≤ out.size + 70000 * ps.length)
  | [], i, out, _, _, _ => ⟨fun e f h => by simp [rdGo] at h, fun o j h => by simp [rdGo] at h; obtain ⟨rfl, rfl⟩ := h; simp⟩
  | p :: ps, i, out, hp, h1, h2 => by
    have hps : ∀ q ∈ ps, 0 ≤ q.f0 := fun q hq => hp q (List.mem_cons_of_mem _ hq)
    rw [rdGo]
    by_cases f1 : p.f1 = true
    · rw [if_pos f1]
      obtain ⟨_, hw⟩ := wireR_at hb hl (i := i) (by omega) (by omega)
      by_cases he : (wireR l i).2.2.1 ≠ 0
      · rw [if_pos he]
        rcases hw with ⟨_, _, _, g1, g2⟩ | ⟨ls, nx, _, _, _, q, _⟩
        · exact ⟨fun e f h => by simp at h; obtain ⟨rfl, rfl⟩ := h; exact ⟨he, g1, g2⟩, fun o j h => by cases h⟩
        · rw [q] at he; exact absurd rfl he
      · rw [if_neg he]
        rcases hw with ⟨g, _⟩ | ⟨ls, nx, _, _, q3, q, q5, q6⟩
        · exact absurd g he
        by_cases hn : en < (wireR l i).2.1
        · rw [if_pos hn]
          exact ⟨fun e f h => by simp at h; obtain ⟨rfl, rfl⟩ := h; exact ⟨by decide, by omega, by omega⟩, fun o j h => by cases h⟩
        · rw [if_neg hn]
          rw [q] at hn ⊢
          obtain ⟨r1, r2⟩ := rdGo_inr hb hl ha hen ps nx (out ++ strOfNums (ls ++ [0])) hps (by omega) (by simp only at hn; omega)
          refine ⟨r1, fun o j h => ?_⟩
          have := r2 o j h
          rw [ByteArray.size_append, strOfNums_size] at this
          simp only [List.length_append, List.length_cons, List.length_nil] at this ⊢
          omega
    · rw [if_neg f1]
      by_cases f2 : p.f2 = true
      · rw [if_pos f2]
        obtain ⟨r1, r2⟩ := rdGo_inr hb hl ha hen ps en (out ++ strOfNums ((l.take en.toNat).drop i.toNat)) hps (by omega) (by omega)
        refine ⟨r1, fun o j h => ?_⟩
        have := r2 o j h
        rw [ByteArray.size_append, strOfNums_size] at this
        simp only [List.length_drop, List.length_take, List.length_cons] at this ⊢
        omega
      · rw [if_neg f2]
        by_cases hs : en - i < p.f0
        · rw [if_pos hs]
          exact ⟨fun e f h => by simp at h; obtain ⟨rfl, rfl⟩ := h; exact ⟨by decide, by omega, by omega⟩, fun o j h => by cases h⟩
        · rw [if_neg hs]
          have hp0 := hp p List.mem_cons_self
          obtain ⟨r1, r2⟩ := rdGo_inr hb hl ha hen ps (i + p.f0) (out ++ strOfNums ((l.take (i + p.f0).toNat).drop i.toNat)) hps (by omega) (by omega)
          refine ⟨r1, fun o j h => ?_⟩
          have := r2 o j h
          rw [ByteArray.size_append, strOfNums_size] at this
          simp only [List.length_drop, List.length_take, List.length_cons] at this ⊢
          omega

/-- What Read tells, in two ways. -/
theorem readR_spec {l : List Int} {a sz t : Int} (hb : bytesB l = true) (hl : l.length ≤ 70000) :
    ((readR l a sz t).2.1 = 0 ∧ rdata_Check.f 1 t (readR l a sz t).1 = some 0) ∨ ((readR l a sz t).2.1 ≠ 0 ∧ (readR l a sz t).1 = ⟨#[]⟩ ∧ 0 ≤ (readR l a sz t).2.2 ∧ (readR l a sz t).2.2 ≤ l.length) := by
  unfold readR
  by_cases h1 : t < 0 ∨ 65535 < t ∨ sz < 0 ∨ 65535 < sz
  · rw [if_pos h1]; exact .inr ⟨by decide, rfl, by decide, by simp⟩
  rw [if_neg h1]
  by_cases h2 : a < 0 ∨ (l.length : Int) < a
  · rw [if_pos h2]; exact .inr ⟨by decide, rfl, by decide, by simp⟩
  rw [if_neg h2]
  by_cases h3 : (l.length : Int) - a < sz
  · rw [if_pos h3]; exact .inr ⟨by show (4 : Int) ≠ 0; decide, rfl, by simp, by simp⟩
  rw [if_neg h3]
  cases hp : partsL t with
  | none =>
    refine .inl ⟨rfl, check_any (by omega) (by omega) ?_ hp⟩
    show (strOfNums _).size ≤ 65535
    rw [strOfNums_size, List.length_drop, List.length_take]
    omega
  | some ps =>
    have hok := partsL_ok hp
    obtain ⟨g1, g2⟩ := rdGo_inr hb hl (a := a) (en := a + sz) (by omega) (by omega) ps a ⟨#[]⟩ (fun p h => (hok.2 p h).2.1) (by omega) (by omega)
    simp only []
    cases hr : rdGo l (a + sz) a ps a ⟨#[]⟩ with
    | inr x =>
      obtain ⟨e, f⟩ := x
      have := g1 e f hr
      exact .inr ⟨this.1, rfl, this.2.1, this.2.2⟩
    | inl x =>
      obtain ⟨o, i⟩ := x
      by_cases hc : i = a + sz ∧ rdata_Check.f 1 t o = some 0
      · have e : readEnd t (a + sz) a (.inl (o, i)) = (o, 0, 0) := if_pos hc
        rw [e]; exact .inl ⟨rfl, hc.2⟩
      · rw [readEnd_bad hc]; exact .inr ⟨by show (4 : Int) ≠ 0; decide, rfl, by show 0 ≤ a; omega, by show a ≤ _; omega⟩
end Go.Proofs.Ytjjbhpbmfpodeaa.PB
end
