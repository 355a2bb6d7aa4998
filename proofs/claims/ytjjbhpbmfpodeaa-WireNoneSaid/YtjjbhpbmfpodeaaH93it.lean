import Derived.Test.YtjjbhpbmfpodeaaX0
import Derived.Test.YtjjbhpbmfpodeaaRF
import Derived.RangeFuncBox
import Derived.RangeFuncLeaves
import Derived.Shelf.Abstract
import Derived.Shelf.RegionOpen
import Derived.WalkKit
import Derived.OwnWalkIn
import Derived.TacticsInMore
import Derived.LoopNIn
import Derived.LoopIn
import Derived.Maps.AppendAt
import Derived.Sort.QuietIn
namespace Go.Proofs.Ytjjbhpbmfpodeaa.X
open Go.RowKit Go.Shelf Go.Proofs.YtjjbhpbmfpodeaaW.PrintWords Go.Proofs.YtjjbhpbmfpodeaaW.PrintLast Go.Proofs.YtjjbhpbmfpodeaaW.PrintMore
set_option linter.unusedVariables false
set_option linter.unusedSimpArgs false
attribute [local go_sem] Oper.semAt_some

/-- May the next label of what is left not be? -/
def lbBad (s : ByteArray) : Bool := s.size == 0 || decide (bt s 0 = 0) || decide (63 < bt s 0) || decide ((s.size : Int) ≤ bt s 0)
def lbRoot (s : ByteArray) : Bool := s.toList == [0]
def lbHead (s : ByteArray) : ByteArray := s.extract 1 (1 + (bt s 0).toNat)
def lbRest (s : ByteArray) : ByteArray := s.extract (1 + (bt s 0).toNat) s.size
/-- What the iterator over a name's labels yields. -/
def lbEvs : Nat → ByteArray → List (ByteArray × Bool)
  | 0, _ => []
  | k + 1, s => if lbRoot s = true then [] else if lbBad s = true then [(⟨#[]⟩, false)] else (lbHead s, true) :: lbEvs k (lbRest s)

theorem lbRest_size {s : ByteArray} (h : lbBad s = false) : (lbRest s).size < s.size ∧ (lbRest s).size + 1 + (bt s 0).toNat = s.size ∧ 1 ≤ bt s 0 ∧ bt s 0 ≤ 63 := by
  unfold lbBad at h
  simp only [Bool.or_eq_false_iff, beq_eq_false_iff_ne, decide_eq_false_iff_not] at h
  obtain ⟨⟨⟨h1, h2⟩, h3⟩, h4⟩ := h
  have := bt_range s 0
  unfold lbRest
  rw [ByteArray.size_extract]
  omega

set_option maxHeartbeats 4000000 in
set_option maxRecDepth 100000 in
theorem all1_in (n : Nat) (hn : 1 ≤ n) (l Bn N : Nat) (s0 : ByteArray) (hN : s0.size < N) (J Jx : List (ByteArray × Bool) → World → Prop)
    (hJc : ∀ s A u, J s A → J s (A.setCell ⟨Bn, 0, none⟩ u)) (hJd : ∀ s A m, J s A → J s (World.drewN A m))
    (hY : ∀ pre x W, J pre W → pre.length < N → YieldAt Fence.wide (n - 1) Try.prog l #[.string x.1, .bool x.2] W fun e W' =>
      (e = .returned (.bool true) ∧ J (pre ++ [x]) W' ∧ W'.heap[Bn]? = W.heap[Bn]?) ∨ (e = .returned (.bool false) ∧ Jx (pre ++ [x]) W'))
    (W : World) (hBW : W.heap[Bn]? = some (.cells #[.string s0] 9 (0, 0))) (h0 : J [] W) :
    CallsIn Fence.wide n Try.prog 122 #[.func (.yield l) #[] #[], .pointer (some ⟨Bn, 0, none⟩)] W fun e W' => (∃ v, e = .returned v) ∧
      ((∃ ys, ys = lbEvs N s0 ∧ J ys W') ∨ (∃ pre, pre <+: lbEvs N s0 ∧ Jx pre W')) := by
  refine callsIn_of_wp Try.func122 rfl trivial ?_ rfl
  simp only [Try.ntmps122, List.size_toArray, List.length_cons, List.length_nil, Nat.reduceAdd, Nat.reduceSub, Array.replicate_succ, Array.replicate_zero, List.push_toArray, List.append_toArray, List.nil_append, List.cons_append]
  gi_wp2
  gi_loopw [3] (fun _ wr => ∃ (pre : List (ByteArray × Bool)) (s : ByteArray) (k : Nat), lbEvs N s0 = pre ++ lbEvs k s ∧ s.size < k ∧ pre.length + k = N ∧ Aside0 (wr.heap[Bn]? = some (.cells #[.string s] 9 (0, 0))) ∧ Aside0 (J pre wr))
    (fun _ wr => match wr.cell? ⟨Bn, 0, none⟩ with | some (.string s) => s.size | _ => 0)
  case atStart => exact ⟨[], s0, N, rfl, hN, by simp, ⟨hBW⟩, ⟨h0⟩⟩
  case round =>
    obtain ⟨pre, s, k, hev, hk, hpl, HBW, HJ⟩ := hrel
    have hc : wr.cell? ⟨Bn, 0, none⟩ = some (.string s) := (blk_cell HBW.out 0).trans rfl
    have hf := blk_frozen HBW.out 0
    have HEV := Aside0.mk hev
    clear hev
    obtain ⟨k, rfl⟩ : ∃ m, k = m + 1 := ⟨k - 1, by omega⟩
    by_cases hroot : lbRoot s = true
    · have hr : (s.toList == [0]) = true := hroot
      gi_wp2
      refine bodyPost_ret (results_none rfl _ _ _) rfl ?_
      exact ⟨⟨_, rfl⟩, .inl ⟨pre, by rw [HEV.out]; simp [lbEvs, hroot], HJ.out⟩⟩
    · have hr : (s.toList == [0]) = false := by unfold lbRoot at hroot; simpa using hroot
      by_cases hz : s.size = 0
      · have hz1 : ((s.size : Int) == 0) = true := by simp [hz]
        have hbad : lbBad s = true := by simp [lbBad, hz]
        gi_wp2
        gi_quiet (fail)
        obtain ⟨fn, tmps, assign, body, hy, hR⟩ := hY pre (⟨#[]⟩, false) (wr.drewN nq) (hJd _ _ _ HJ.out) (by omega)
        gi_wp2
        refine hR.mono ?_
        rintro e W' (⟨rfl, hJ', hk'⟩ | ⟨rfl, hJx'⟩)
        · gi_wp2
          refine bodyPost_ret (results_none rfl _ _ _) rfl ?_
          exact ⟨⟨_, rfl⟩, .inl ⟨_, by rw [HEV.out]; simp [lbEvs, hroot, hbad], hJ'⟩⟩
        · gi_wp2
          refine bodyPost_ret (results_none rfl _ _ _) rfl ?_
          exact ⟨⟨_, rfl⟩, .inr ⟨_, by rw [HEV.out]; simp [lbEvs, hroot, hbad], hJx'⟩⟩
      have hz1 : ((s.size : Int) == 0) = false := beq_eq_false_iff_ne.2 (by omega)
      have hpos : 0 < s.size := by omega
      have hb0 : ∀ h : 0 < s.size, ((s[0]'h).toNat : Int) = bt s 0 := fun h => bt_at s 0 h
      have hrg := bt_range s 0
      by_cases hb : bt s 0 = 0
      · have hb1 : (bt s 0 == 0) = true := beq_iff_eq.2 hb
        have hbad : lbBad s = true := by simp [lbBad, hb]
        have HB := Aside0.mk hb
        clear hb
        gi_wp2
        gi_quiet (fail)
        obtain ⟨fn, tmps, assign, body, hy, hR⟩ := hY pre (⟨#[]⟩, false) (wr.drewN nq) (hJd _ _ _ HJ.out) (by omega)
        gi_wp2
        refine hR.mono ?_
        rintro e W' (⟨rfl, hJ', hk'⟩ | ⟨rfl, hJx'⟩)
        · gi_wp2
          refine bodyPost_ret (results_none rfl _ _ _) rfl ?_
          exact ⟨⟨_, rfl⟩, .inl ⟨_, by rw [HEV.out]; simp [lbEvs, hroot, hbad], hJ'⟩⟩
        · gi_wp2
          refine bodyPost_ret (results_none rfl _ _ _) rfl ?_
          exact ⟨⟨_, rfl⟩, .inr ⟨_, by rw [HEV.out]; simp [lbEvs, hroot, hbad], hJx'⟩⟩
      have hb1 : (bt s 0 == 0) = false := beq_eq_false_iff_ne.2 hb
      clear hb
      by_cases h63 : 63 < bt s 0
      · have h631 : decide (63 < bt s 0) = true := decide_eq_true h63
        have hbad : lbBad s = true := by simp [lbBad, h63]
        gi_wp2
        gi_quiet (fail)
        obtain ⟨fn, tmps, assign, body, hy, hR⟩ := hY pre (⟨#[]⟩, false) (wr.drewN nq) (hJd _ _ _ HJ.out) (by omega)
        gi_wp2
        refine hR.mono ?_
        rintro e W' (⟨rfl, hJ', hk'⟩ | ⟨rfl, hJx'⟩)
        · gi_wp2
          refine bodyPost_ret (results_none rfl _ _ _) rfl ?_
          exact ⟨⟨_, rfl⟩, .inl ⟨_, by rw [HEV.out]; simp [lbEvs, hroot, hbad], hJ'⟩⟩
        · gi_wp2
          refine bodyPost_ret (results_none rfl _ _ _) rfl ?_
          exact ⟨⟨_, rfl⟩, .inr ⟨_, by rw [HEV.out]; simp [lbEvs, hroot, hbad], hJx'⟩⟩
      have h631 : decide (63 < bt s 0) = false := decide_eq_false h63
      by_cases hge : (s.size : Int) ≤ bt s 0
      · have hge1 : decide ((s.size : Int) ≤ bt s 0) = true := decide_eq_true hge
        have hbad : lbBad s = true := by simp [lbBad, hge]
        gi_wp2
        gi_quiet (fail)
        obtain ⟨fn, tmps, assign, body, hy, hR⟩ := hY pre (⟨#[]⟩, false) (wr.drewN nq) (hJd _ _ _ HJ.out) (by omega)
        gi_wp2
        refine hR.mono ?_
        rintro e W' (⟨rfl, hJ', hk'⟩ | ⟨rfl, hJx'⟩)
        · gi_wp2
          refine bodyPost_ret (results_none rfl _ _ _) rfl ?_
          exact ⟨⟨_, rfl⟩, .inl ⟨_, by rw [HEV.out]; simp [lbEvs, hroot, hbad], hJ'⟩⟩
        · gi_wp2
          refine bodyPost_ret (results_none rfl _ _ _) rfl ?_
          exact ⟨⟨_, rfl⟩, .inr ⟨_, by rw [HEV.out]; simp [lbEvs, hroot, hbad], hJx'⟩⟩
      have hge1 : decide ((s.size : Int) ≤ bt s 0) = false := decide_eq_false hge
      gi_wp2
      gi_quiet (fail)
      gi_wp2
      obtain ⟨fn, tmps, assign, body, hy, hR⟩ := hY pre (lbHead s, true) (wr.drewN (nq + 1)) (hJd _ _ _ HJ.out) (by omega)
      have hnb : 1 ≤ bt s 0 := by have := of_decide_eq_false h631; have := beq_eq_false_iff_ne.1 hb1; omega
      have hbad : lbBad s = false := by simp [lbBad, hz, h63, hge]; omega
      have HBAD := Aside0.mk hbad
      have HREST := Aside0.mk (lbRest_size hbad)
      have HEVS : Aside0 (lbEvs (k + 1) s = (lbHead s, true) :: lbEvs k (lbRest s)) := ⟨by simp [lbEvs, hroot, hbad]⟩
      clear hbad
      have hw1 : IntKind.i64.wrap (bt s 0) = bt s 0 := IntWalk.i64_in _ (by omega)
      have hw2 : IntKind.i64.wrap (1 + bt s 0) = 1 + bt s 0 := IntWalk.i64_in _ (by omega)
      have hsl : ∀ W : World, (Instr.slice 9 (.string s) (some (.int .i64 1)) (some (.int .i64 (1 + bt s 0))) none).run Try.prog W = .ok (.string (lbHead s)) W := fun W => by
        rw [run_slice_string W 9 s .i64 .i64 1 (1 + bt s 0) Try.underlying9 (by omega) (by omega) (by omega)]
        unfold lbHead
        rw [show (1 + bt s 0).toNat = 1 + (bt s 0).toNat by omega]; rfl
      have hsl2 : ∀ W : World, (Instr.slice 9 (.string s) (some (.int .i64 (1 + bt s 0))) none none).run Try.prog W = .ok (.string (lbRest s)) W := fun W => by
        rw [run_slice_string_from_if W 9 s .i64 (1 + bt s 0) Try.underlying9, if_pos (by omega)]
        unfold lbRest
        rw [show (1 + bt s 0).toNat = 1 + (bt s 0).toNat by omega]
      have hR2 := hR.mono (R' := fun e W' => ∃ b : Bool, e = .returned (.bool b) ∧ Aside0 ((b = true ∧ J (pre ++ [(lbHead s, true)]) W' ∧ W'.heap[Bn]? = wr.heap[Bn]?) ∨ (b = false ∧ Jx (pre ++ [(lbHead s, true)]) W'))) (by
        rintro e W' (⟨rfl, h1, h2⟩ | ⟨rfl, h1⟩)
        · exact ⟨true, rfl, ⟨.inl ⟨rfl, h1, h2⟩⟩⟩
        · exact ⟨false, rfl, ⟨.inr ⟨rfl, h1⟩⟩⟩)
      clear hR
      gi_region_with ((refine hR2.mono ?_; rintro e W' ⟨b, rfl, HP⟩))
      all_goals (obtain ⟨rfl, hJ', hk'⟩ | ⟨rfl, hJx'⟩ := HP.out)
      all_goals first
        | (have hx := hJx'
           gi_wp2
           refine bodyPost_ret (results_none rfl _ _ _) rfl ?_
           exact ⟨⟨_, rfl⟩, .inr ⟨_, by rw [HEV.out, HEVS.out]; simp, hx⟩⟩)
        | skip
      all_goals
        have HBW' : W'.heap[Bn]? = some (.cells #[.string s] 9 (0, 0)) := hk'.trans HBW.out
        have hc' : W'.cell? ⟨Bn, 0, none⟩ = some (.string s) := (blk_cell HBW' 0).trans rfl
        have hf' := blk_frozen HBW' 0
        have HBX := Aside0.mk HBW'
        have HJ' := Aside0.mk hJ'
        clear HBW' hJ' hk' HP hR2 hy
        gi_wp2
        gi_region
      all_goals
        gi_wp2
        go_roundw
        case rel =>
          refine ⟨pre ++ [(lbHead s, true)], lbRest s, k, by rw [HEV.out, HEVS.out]; simp, by have := HREST.out; omega, by simp; omega, ⟨?_⟩, ⟨?_⟩⟩
          · exact (blk_put (cs := #[.string s]) HBX.out 0 (.string (lbRest s)) rfl)
          · exact hJd _ _ 1 (hJc _ _ _ HJ'.out)
        case measure =>
          rw [show (W'.setCell { block := Bn, off := 0 } (Value.string (lbRest s))).drew.cell? { block := Bn, off := 0 } = some (.string (lbRest s)) from (blk_cell (blk_put (cs := #[.string s]) HBX.out 0 (.string (lbRest s)) rfl) 0).trans rfl, hc]
          have := HREST.out
          show (lbRest s).size < s.size
          omega
theorem all_in (n : Nat) (s : ByteArray) (w : World) :
    CallsIn Fence.wide n Try.prog 113 #[.string s] w fun e w' => e = .returned (.func (.func 122) #[] #[.pointer (some ⟨w.heap.size, 0, none⟩)]) ∧ w' = w.alloc (.cells #[.string s] 9) := by
  refine callsIn_of_wp Try.func113 rfl trivial ?_ rfl
  simp only [Try.ntmps113, List.size_toArray, List.length_cons, List.length_nil, Nat.reduceAdd, Nat.reduceSub, Array.replicate_succ, Array.replicate_zero, List.push_toArray, List.append_toArray, List.nil_append, List.cons_append]
  gi_wp2
  go_ret
  exact ⟨rfl, rfl⟩
end Go.Proofs.Ytjjbhpbmfpodeaa.X
