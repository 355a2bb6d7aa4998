/- Which name stands at any place of any bytes, and where it ends, is told as the document says: the walk of the statement's code. -/
import Derived.Test.YtjjbhpbmfpodeaaH40
import Derived.Test.YtjjbhpbmfpodeaaPWR
import Derived.Test.YtjjbhpbmfpodeaaX45
import Derived.Test.YtjjbhpbmfpodeaaX46
import Derived.Test.YtjjbhpbmfpodeaaX47
import Derived.Test.YtjjbhpbmfpodeaaX1031
namespace Go.Proofs.Ytjjbhpbmfpodeaa.X
open Go.RowKit Go.Proofs.Ytjjbhpbmfpodeaa.PB Go.Proofs.YtjjbhpbmfpodeaaW.PrintWords Go.Proofs.YtjjbhpbmfpodeaaW.PrintLast Go.Proofs.YtjjbhpbmfpodeaaW.PrintMore
set_option linter.unusedVariables false
set_option linter.unusedSimpArgs false
attribute [local go_sem] Oper.semAt_some

theorem C_of_pre {w : World} {g : Nat} {xs ys : List Int} (h : w.heap[g]? = some (.cells (nums .u8 (xs ++ ys)).toArray 5 (0, 0))) (hl : xs.length ≤ 9223372036854775807) : Kd.C (Kd.int .u8) w (some ⟨g, 0, none⟩) xs.length xs := by
  refine Kd.C_of_reads (d := (0 : Int)) (h1 := fun _ => rfl) ⟨rfl, hl, fun _ => ⟨_, rfl, fun j hj => ?_⟩⟩
  have e : (⟨g, 0, none⟩ : Addr).add j = ⟨g, j, none⟩ := by simp [Addr.add] <;> omega
  rw [e, blk_cell h]
  have hj2 : j < (xs ++ ys).length := by simp; omega
  have e2 : (nums .u8 (xs ++ ys)).toArray[j]? = some (.int .u8 (xs.getD j 0)) := by
    rw [List.getElem?_toArray]
    unfold nums
    rw [List.map_append, List.getElem?_append_left (by simpa using hj), List.getElem?_map, List.getElem?_eq_getElem hj, List.getD_eq_getElem?_getD, List.getElem?_eq_getElem hj]
    rfl
  exact e2

set_option maxHeartbeats 4000000 in
set_option maxRecDepth 100000 in
theorem ostiarylaw05_WireReads.in_ (n : Nat) (hn : 5 ≤ n) (A0 : Option Addr) (c0 : Nat) (l0 : List Int) (a1 : Int) (w : World) (hr0 : Kd.C (Kd.int .u8) w A0 l0.length l0) (hc0 : l0.length ≤ c0) (hb : bytesB l0 = true) :
    CallsIn Fence.wide n Try.prog 8 #[.slice A0 l0.length c0, .int .i64 a1] w fun e w' => e = .returned (.bool true) ∧ Below w.heap.size w w' := by
  have HR := Aside0.mk hr0
  have HC := Aside0.mk hc0
  clear hr0 hc0
  refine callsIn_of_wp Try.func8 rfl trivial ?_ rfl
  simp only [Try.ntmps8, List.size_toArray, List.length_cons, List.length_nil, Nat.reduceAdd, Nat.reduceSub, Array.replicate_succ, Array.replicate_zero, List.push_toArray, List.append_toArray, List.nil_append, List.cons_append]
  by_cases hbig : (70000 : Int) < (l0.length : Int)
  · have h1 : decide ((70000 : Int) < (l0.length : Int)) = true := decide_eq_true hbig
    gi_wp2
    go_ret
    exact ⟨rfl, Below.refl _ _⟩
  have h1 : decide ((70000 : Int) < (l0.length : Int)) = false := decide_eq_false hbig
  have HL : Aside0 (l0.length ≤ 70000) := ⟨by omega⟩
  obtain ⟨⟨r1, r2, r3, r4⟩, hra, hrb⟩ := read_same hb (by omega) a1
  have HRA := Aside0.mk (hra (a1.toNat + 258) (by omega))
  have HRB := Aside0.mk (hrb (a1.toNat + 258) (by omega))
  clear hra hrb hbig
  gi_wp2_with (first
    | (first | refine ⟨trivial, fun _ => by omega, ?_⟩ | refine ⟨trivial, ?_⟩); refine (ostiarykit_LentBytes.in_ (n - 1) (by omega) A0 c0 l0 _ HR.out (by have := HL.out; omega)).mono ?_; rintro e w1 ⟨g, rfl, hg, hblk, hbl⟩
    | (first | refine ⟨trivial, fun _ => by omega, ?_⟩ | refine ⟨trivial, ?_⟩); refine (callsIn_wide.2 (wire_Read.calls (a1.toNat + 258) (some ⟨g, 0, none⟩) (l0.length + 3) l0 a1 r1 r2 r3 r4 w1 (C_of_pre hblk (by have := HL.out; omega)) (by omega) HRA.out)).mono ?_; rintro e w2 ⟨rfl, hb2⟩; have HB2 := Aside0.mk (hbl.trans (hb2.mono hbl.size)); have HG2 := Aside0.mk (blk_below hblk hb2)
    | (first | refine ⟨trivial, fun _ => by omega, ?_⟩ | refine ⟨trivial, ?_⟩); refine (callsIn_wide.2 (ostiaryref05_Read.calls (a1.toNat + 258) A0 c0 l0 a1 r1 r2 r3 r4 _ (Kd.C_below HR.out (below_alloc HB2.out _)) HC.out HRB.out)).mono ?_; rintro e w3 ⟨rfl, hb3⟩; have HB3 := Aside0.mk ((below_alloc HB2.out (Obj.cells #[Value.int IntKind.i64 r3, Value.int IntKind.i64 r4] 31)).trans (hb3.mono (below_alloc HB2.out _).size)); have HG3 := Aside0.mk (blk_below (blk_alloc HG2.out _) hb3); have HE3 := Aside0.mk (blk_below (blk_new w2 (Obj.cells #[Value.int IntKind.i64 r3, Value.int IntKind.i64 r4] 31)) hb3); have ha0 := (blk_cell (blk_alloc HE3.out (Obj.cells #[Value.int IntKind.i64 r3, Value.int IntKind.i64 r4] 31)) 0).trans rfl; have ha1 := (blk_cell (blk_alloc HE3.out (Obj.cells #[Value.int IntKind.i64 r3, Value.int IntKind.i64 r4] 31)) 1).trans rfl; have hd0 := (blk_cell (blk_new w3 (Obj.cells #[Value.int IntKind.i64 r3, Value.int IntKind.i64 r4] 31)) 0).trans rfl; have hd1 := (blk_cell (blk_new w3 (Obj.cells #[Value.int IntKind.i64 r3, Value.int IntKind.i64 r4] 31)) 1).trans rfl; clear hb3 hb2 hbl hblk
    | (first | refine ⟨trivial, fun _ => by omega, ?_⟩ | refine ⟨trivial, ?_⟩); refine (ostiarykit_KeptBytes.in_ (n - 1) (by omega) g A0 c0 l0 _ (blk_alloc HG3.out _) (Kd.C_below HR.out (below_alloc HB3.out _)) (by have := HL.out; omega)).mono ?_; rintro e w4 ⟨rfl, hb4⟩; have HB4 := Aside0.mk ((below_alloc HB3.out (Obj.cells #[Value.int IntKind.i64 r3, Value.int IntKind.i64 r4] 31)).trans (hb4.mono (below_alloc HB3.out _).size)); clear hb4
    | (first | refine ⟨trivial, fun _ => by omega, ?_⟩ | refine ⟨trivial, ?_⟩); refine (callsIn_wide.2 (ostiarylaw05_awake.calls 12 true _ (awake5 (by omega)))).mono ?_; rintro e w5 ⟨rfl, hb5⟩; have HB5 := Aside0.mk (HB4.out.trans (hb5.mono HB4.out.size)); clear hb5)
  go_ret
  exact ⟨rfl, HB5.out⟩

theorem ostiarylaw05_WireReads.walk (a0 : Option Addr) (len0 cap0 : Nat) (z0 : List Int) (a1 : Int) (w : World) (w0 : (a0 = none ∧ len0 = 0 ∧ cap0 = 0 ∧ z0 = []) ∨ ∃ x, a0 = some x ∧ len0 ≤ cap0 ∧ cap0 ≤ maxLen ∧ z0.length = cap0 ∧ (∀ i, i < z0.length → w.cell? (x.add i) = some (.int .u8 (z0.getD i 0))) ∧ ∀ n ∈ z0, (Lit.int .u8 n).wf = true) (y0 : len0 * 1 ≤ 140737488351232) (w1 : (Lit.int .i64 a1).wf = true) :
    Calls Try.prog 8 #[.slice a0 len0 cap0, .int .i64 a1] w fun e w' => e = .returned (.bool true) ∧ Below w.heap.size w w' := by
  obtain ⟨l0, rfl, hr0, hm0, hw0, hc0⟩ := ReadsInt.ofRowC w0
  exact callsIn_wide.1 (ostiarylaw05_WireReads.in_ 5 (by omega) a0 cap0 l0 a1 w (Kd.C_of_reads (d := (0 : Int)) (h1 := fun _ => rfl) hr0) hc0 (bytesB_of hw0))
end Go.Proofs.Ytjjbhpbmfpodeaa.X
