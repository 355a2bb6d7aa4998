/- A packer that is nil, or that New did not make, answers ErrNil, and knows nothing: the walk of the statement's code. -/
import Derived.Test.YtjjbhpbmfpodeaaRF
import Derived.Test.YtjjbhpbmfpodeaaPureWireEnds
import Derived.WalkKit
import Derived.OwnWalkIn
import Derived.TacticsInMore
import Derived.LoopNIn
import Derived.LoopIn
import Derived.Sort.QuietIn
namespace Go.Proofs.Ytjjbhpbmfpodeaa.X
open Go.RowKit Go.Proofs.Ytjjbhpbmfpodeaa.PB Go.Proofs.YtjjbhpbmfpodeaaW.PrintWords Go.Proofs.YtjjbhpbmfpodeaaW.PrintLast Go.Proofs.YtjjbhpbmfpodeaaW.PrintMore
set_option linter.unusedVariables false
set_option linter.unusedSimpArgs false
attribute [local go_sem] Oper.semAt_some

set_option maxHeartbeats 4000000 in
set_option maxRecDepth 100000 in
theorem map_eq_nil (w : World) : (binOp BinOp.eql 55 (.map none) (.map none)).run Try.prog w = .ok (.bool true) w := by
  first | rfl | (simp [binOp, go_sem, Try.underlying55] <;> done) | (unfold binOp; simp [go_sem, Try.underlying55]; rfl)

set_option maxHeartbeats 4000000 in
set_option maxRecDepth 100000 in
theorem Packer_Name.nil_ (n : Nat) (hn : 1 ≤ n) (at_ : Int) (s : ByteArray) (w : World) :
    CallsIn Fence.wide n Try.prog 51 #[.pointer none, .int .i64 at_, .string s] w fun e w' => e = .returned (.tuple #[.slice none 0 0, .int .i64 1]) ∧ w' = w := by
  refine callsIn_of_wp Try.func51 rfl trivial ?_ rfl
  simp only [Try.ntmps51, List.size_toArray, List.length_cons, List.length_nil, Nat.reduceAdd, Nat.reduceSub, Array.replicate_succ, Array.replicate_zero, List.push_toArray, List.append_toArray, List.nil_append, List.cons_append]
  gi_wp2
  go_ret2
  exact ⟨rfl, rfl⟩
set_option maxHeartbeats 4000000 in
set_option maxRecDepth 100000 in
theorem Packer_Name.zero_ (n : Nat) (hn : 1 ≤ n) (b : Nat) (at_ : Int) (s : ByteArray) (w : World) (h0 : w.cell? ⟨b, 0, none⟩ = some (.map none)) :
    CallsIn Fence.wide n Try.prog 51 #[.pointer (some ⟨b, 0, none⟩), .int .i64 at_, .string s] w fun e w' => e = .returned (.tuple #[.slice none 0 0, .int .i64 1]) ∧ w' = w := by
  refine callsIn_of_wp Try.func51 rfl trivial ?_ rfl
  simp only [Try.ntmps51, List.size_toArray, List.length_cons, List.length_nil, Nat.reduceAdd, Nat.reduceSub, Array.replicate_succ, Array.replicate_zero, List.push_toArray, List.append_toArray, List.nil_append, List.cons_append]
  have hm := map_eq_nil
  gi_wp2
  go_ret2
  exact ⟨rfl, rfl⟩
set_option maxHeartbeats 4000000 in
set_option maxRecDepth 100000 in
theorem Packer_Known.nil_ (n : Nat) (hn : 1 ≤ n) (w : World) :
    CallsIn Fence.wide n Try.prog 52 #[.pointer none] w fun e w' => e = .returned (.int .i64 0) ∧ w' = w := by
  refine callsIn_of_wp Try.func52 rfl trivial ?_ rfl
  simp only [Try.ntmps52, List.size_toArray, List.length_cons, List.length_nil, Nat.reduceAdd, Nat.reduceSub, Array.replicate_succ, Array.replicate_zero, List.push_toArray, List.append_toArray, List.nil_append, List.cons_append]
  gi_wp2
  go_ret
  exact ⟨rfl, rfl⟩
set_option maxHeartbeats 4000000 in
set_option maxRecDepth 100000 in
theorem Packer_Known.zero_ (n : Nat) (hn : 1 ≤ n) (b : Nat) (w : World) (h0 : w.cell? ⟨b, 0, none⟩ = some (.map none)) :
    CallsIn Fence.wide n Try.prog 52 #[.pointer (some ⟨b, 0, none⟩)] w fun e w' => e = .returned (.int .i64 0) ∧ w' = w := by
  refine callsIn_of_wp Try.func52 rfl trivial ?_ rfl
  simp only [Try.ntmps52, List.size_toArray, List.length_cons, List.length_nil, Nat.reduceAdd, Nat.reduceSub, Array.replicate_succ, Array.replicate_zero, List.push_toArray, List.append_toArray, List.nil_append, List.cons_append]
  gi_wp2
  go_ret
  exact ⟨rfl, rfl⟩

set_option maxHeartbeats 8000000 in
set_option maxRecDepth 100000 in
theorem ostiarylaw05_WireNone.in_ (n : Nat) (hn : 5 ≤ n) (a : Int) (s : ByteArray) (w : World) :
    CallsIn Fence.wide n Try.prog 11 #[.int .i64 a, .string s] w fun e w' => e = .returned (.bool true) ∧ Below w.heap.size w w' := by
  refine callsIn_of_wp Try.func11 rfl trivial ?_ rfl
  simp only [Try.ntmps11, List.size_toArray, List.length_cons, List.length_nil, Nat.reduceAdd, Nat.reduceSub, Array.replicate_succ, Array.replicate_zero, List.push_toArray, List.append_toArray, List.nil_append, List.cons_append]
  by_cases hbig : (400 : Int) < (s.size : Int)
  · have h1 : decide ((400 : Int) < (s.size : Int)) = true := decide_eq_true hbig
    gi_wp2_with (first
      | (first | refine ⟨trivial, fun _ => by omega, ?_⟩ | refine ⟨trivial, ?_⟩); refine (callsIn_wide.2 (ostiarylaw05_awake.calls 12 true _ (awake5 (by omega)))).mono ?_; rintro e w5 ⟨rfl, hb5⟩; have HB5 := Aside0.mk hb5; clear hb5)
    go_ret
    exact ⟨rfl, HB5.out⟩
  have h1 : decide ((400 : Int) < (s.size : Int)) = false := decide_eq_false hbig
  clear hbig
  gi_wp2
  gi_loopw [6] (fun p wr => ∃ i : Int, p = .int .i64 i ∧ 0 ≤ i ∧ i ≤ 2 ∧ Aside0 (wr.heap[w.heap.size]? = some (.cells #[.map none, .int .i64 0] 57 (0, 0))) ∧ Aside0 (wr.heap[w.heap.size + 1]? = some (.cells #[.pointer none, .pointer (some ⟨w.heap.size, 0, none⟩)] 46 (0, 0))) ∧ Aside0 (Below w.heap.size w wr)) (fun p _ => match p with | .int _ i => (2 - i).toNat | _ => 0)
  case atStart =>
    refine ⟨0, rfl, by omega, by omega, ⟨?_⟩, ⟨?_⟩, ⟨?_⟩⟩
    · exact blk_alloc (blk_new w _) _
    · have := World.alloc_heap_new (w.alloc (Obj.cells #[.map none, .int .i64 0] 57)) (Obj.cells #[.pointer none, .pointer (some ⟨w.heap.size, 0, none⟩)] 46)
      rw [World.size_alloc] at this; exact this
    · exact below_alloc (below_alloc (Below.refl _ _) _) _
  case round =>
    obtain ⟨i, rfl, h0, h2, HP, HL, HB⟩ := hrel
    have hp0 : wr.cell? ⟨w.heap.size, 0, none⟩ = some (.map none) := (blk_cell HP.out 0).trans rfl
    have HP0 := Aside0.mk hp0
    have hl0 := (blk_cell HL.out 0).trans rfl
    have hl1 := (blk_cell HL.out 1).trans rfl
    rcases (show i = 0 ∨ i = 1 ∨ i = 2 by omega) with rfl | rfl | rfl
    · gi_wp2_with (first
        | (first | refine ⟨trivial, fun _ => by omega, ?_⟩ | refine ⟨trivial, ?_⟩); refine (Packer_Name.nil_ (n - 1) (by omega) a s _).mono ?_; rintro e w5 ⟨rfl, rfl⟩
        | (first | refine ⟨trivial, fun _ => by omega, ?_⟩ | refine ⟨trivial, ?_⟩); refine (Packer_Known.nil_ (n - 1) (by omega) _).mono ?_; rintro e w5 ⟨rfl, rfl⟩)
      exact ⟨⟨1, rfl, by omega, by omega, HP, HL, HB⟩, by show (2 - 1 : Int).toNat < (2 - 0 : Int).toNat; decide⟩
    · gi_wp2_with (first
        | (first | refine ⟨trivial, fun _ => by omega, ?_⟩ | refine ⟨trivial, ?_⟩); refine (Packer_Name.zero_ (n - 1) (by omega) w.heap.size a s _ HP0.out).mono ?_; rintro e w5 ⟨rfl, rfl⟩
        | (first | refine ⟨trivial, fun _ => by omega, ?_⟩ | refine ⟨trivial, ?_⟩); refine (Packer_Known.zero_ (n - 1) (by omega) w.heap.size _ HP0.out).mono ?_; rintro e w5 ⟨rfl, rfl⟩)
      exact ⟨⟨2, rfl, by omega, by omega, HP, HL, HB⟩, by show (2 - 2 : Int).toNat < (2 - 1 : Int).toNat; decide⟩
    · gi_wp2_with (first
        | (first | refine ⟨trivial, fun _ => by omega, ?_⟩ | refine ⟨trivial, ?_⟩); refine (callsIn_wide.2 (ostiarylaw05_awake.calls 12 true _ (awake5 (by omega)))).mono ?_; rintro e w5 ⟨rfl, hb5⟩; have HB5 := Aside0.mk (HB.out.trans (hb5.mono HB.out.size)); clear hb5)
      go_ret
      exact ⟨rfl, HB5.out⟩

theorem ostiarylaw05_WireNone.walk (a0 : Int) (a1 : ByteArray) (w : World) (w0 : (Lit.int .i64 a0).wf = true) (w1 : a1.size ≤ maxLen) :
    Calls Try.prog 11 #[.int .i64 a0, .string a1] w fun e w' => e = .returned (.bool true) ∧ Below w.heap.size w w' :=
  callsIn_wide.1 (ostiarylaw05_WireNone.in_ 5 (by omega) a0 a1 w)
end Go.Proofs.Ytjjbhpbmfpodeaa.X
