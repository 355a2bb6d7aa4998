/- What stands in a list of bytes of one's own, spare room and all; OverBytes writes over it, and over nothing else. -/
import Derived.Test.YtjjbhpbmfpodeaaH40
namespace Go.Proofs.Ytjjbhpbmfpodeaa.X
open Go.RowKit Go.Proofs.YtjjbhpbmfpodeaaW.PrintWords Go.Proofs.YtjjbhpbmfpodeaaW.PrintLast Go.Proofs.YtjjbhpbmfpodeaaW.PrintMore
set_option linter.unusedVariables false
set_option linter.unusedSimpArgs false
attribute [local go_sem] Oper.semAt_some

theorem C_of_pre2 {w : World} {g : Nat} {xs ys : List Int} (h : w.heap[g]? = some (.cells (nums .u8 (xs ++ ys)).toArray 5 (0, 0))) (hl : xs.length ≤ 9223372036854775807) : Kd.C (Kd.int .u8) w (some ⟨g, 0, none⟩) xs.length xs := by
  refine Kd.C_of_reads (d := (0 : Int)) (h1 := fun _ => rfl) ⟨rfl, hl, fun _ => ⟨_, rfl, fun j hj => ?_⟩⟩
  have e : (⟨g, 0, none⟩ : Addr).add j = ⟨g, j, none⟩ := by simp [Addr.add] <;> omega
  rw [e, blk_cell h]
  have hj2 : j < (xs ++ ys).length := by simp; omega
  have e2 : (nums .u8 (xs ++ ys)).toArray[j]? = some (.int .u8 (xs.getD j 0)) := by
    rw [List.getElem?_toArray]
    unfold nums
    rw [List.map_append, List.getElem?_append_left (by simpa using hj), List.getElem?_map, List.getElem?_eq_getElem hj, List.getD_eq_getElem?_getD, List.getElem?_eq_getElem hj]
    rfl
  exact e2

/-- v holds the bytes xs in a row of its own, from block base on, and numbers stand in its spare room too. -/
def Full (w : World) (base : Nat) (v : Value) (xs : List Int) : Prop :=
  (v = .slice none 0 0 ∧ xs = []) ∨
  ∃ (g : Nat) (zs : List Int), v = .slice (some ⟨g, 0, none⟩) xs.length (xs.length + zs.length) ∧ base ≤ g ∧ w.heap[g]? = some (.cells (nums .u8 (xs ++ zs)).toArray 5 (0, 0)) ∧ xs.length + zs.length ≤ 9223372036854775807

theorem Full.reads {w : World} {base : Nat} {v : Value} {xs : List Int} (h : Full w base v xs) : ∃ A c, v = .slice A xs.length c ∧ xs.length ≤ c ∧ Kd.C (Kd.int .u8) w A xs.length xs := by
  rcases h with ⟨rfl, rfl⟩ | ⟨g, zs, rfl, hb, hg, hl⟩
  · exact ⟨none, 0, rfl, Nat.le_refl _, Kd.C_of_reads (d := (0 : Int)) (h1 := fun _ => rfl) ⟨rfl, by simp, fun h => absurd h (by simp)⟩⟩
  · exact ⟨_, _, rfl, by omega, C_of_pre2 hg (by omega)⟩
theorem Full.below {w w' : World} {base : Nat} {v : Value} {xs : List Int} (h : Full w base v xs) (hb : Below w.heap.size w w') : Full w' base v xs := by
  rcases h with h | ⟨g, zs, rfl, h1, hg, hl⟩
  · exact .inl h
  · exact .inr ⟨g, zs, rfl, h1, blk_below hg hb, hl⟩
theorem Full.grown {w w' : World} {base : Nat} {v : Value} {xs : List Int} (h : Full w base v xs) {row : Option Nat} (hg : w.grownBy w' row) (hne : v.ownBlock = none ∨ v.ownBlock ≠ row) : Full w' base v xs := by
  rcases h with h | ⟨g, zs, rfl, h1, hk, hl⟩
  · exact .inl h
  · refine .inr ⟨g, zs, rfl, h1, blk_grown hk hg ?_, hl⟩
    rcases hne with h | h
    · simp [Value.ownBlock] at h
    · intro e; exact h (by rw [← e]; rfl)
theorem Full.base_ {w : World} {base : Nat} {v : Value} {xs : List Int} (h : Full w base v xs) : ∀ k, v.ownBlock = some k → base ≤ k ∧ k < w.heap.size := by
  rcases h with ⟨rfl, rfl⟩ | ⟨g, zs, rfl, hb, hg, hl⟩
  · intro k hk; simp [Value.ownBlock] at hk
  · intro k hk; simp [Value.ownBlock] at hk; subst hk; exact ⟨hb, blk_lt hg⟩

theorem grownBy_put {w W : World} {g : Nat} (h : w.grownBy W (some g)) (i : Nat) (u : Value) : w.grownBy (W.setCell ⟨g, i, none⟩ u) (some g) :=
  ⟨h.os, h.tape, h.output, Nat.le_trans h.size (KeepsWalks.setCell W _ u).size, fun k hk hne => (Below.heap_setCell W _ u k (fun e => hne (by rw [e]))).trans (h.block k hk hne)⟩

set_option maxHeartbeats 4000000 in
set_option maxRecDepth 100000 in
theorem ostiarykit_OverBytes.row (n : Nat) (hn : 1 ≤ n) (g k cap : Nat) (ys : List Int) (hcap : ys.length = cap) (hk : k ≤ cap) (hm : cap ≤ 9223372036854775807) (w : World) (hg : w.heap[g]? = some (.cells (nums .u8 ys).toArray 5 (0, 0))) :
    CallsIn Fence.wide n Try.prog 33 #[.slice (some ⟨g, 0, none⟩) k cap] w fun e w' => (∃ u, e = .returned u) ∧ w.grownBy w' (some g) := by
  have hs : ∀ (W : World), (Instr.slice 22 (.slice (some ⟨g, 0, none⟩) k cap) none (some (.int .i64 (cap : Int))) none).run Try.prog W = .ok (.slice (some ⟨g, 0, none⟩) cap cap) W := fun W => by
    simp only [go_sem, Try.underlying22]
    simp
    rw [run_sliceBound W .i64 (cap : Int) cap .sliceAcap (by omega) (by omega)]
    simp [Addr.add]
  have HG := Aside0.mk hg
  have HCAP := Aside0.mk hcap
  have HM := Aside0.mk hm
  clear hg hcap hm
  refine callsIn_of_wp Try.func33 rfl trivial ?_ rfl
  simp only [Try.ntmps33, List.size_toArray, List.length_cons, List.length_nil, Nat.reduceAdd, Nat.reduceSub, Array.replicate_succ, Array.replicate_zero, List.push_toArray, List.append_toArray, List.nil_append, List.cons_append]
  gi_wp2
  gi_loopw [3] (fun p wr => ∃ (i : Int) (zs : List Int), p = .int .i64 i ∧ 0 ≤ i ∧ Aside0 (i ≤ cap) ∧ Aside0 (zs.length = cap) ∧ Aside0 (wr.heap[g]? = some (.cells (nums .u8 zs).toArray 5 (0, 0))) ∧ Aside0 (w.grownBy wr (some g)))
    (fun p _ => match p with | .int _ i => ((cap : Int) - i).toNat | _ => 0)
  case atStart => exact ⟨0, ys, rfl, by omega, ⟨by omega⟩, HCAP, HG, ⟨⟨rfl, rfl, rfl, Nat.le_refl _, fun _ _ _ => rfl⟩⟩⟩
  case round =>
    obtain ⟨i, zs, rfl, h0, HI, HZ, HBK, HGR⟩ := hrel
    by_cases hlt : i < (cap : Int)
    · have hlt1 : decide (i < (cap : Int)) = true := decide_eq_true hlt
      have hidx : i.toNat < zs.length := by have := HZ.out; omega
      have hc : wr.cell? ⟨g, i.toNat, none⟩ = some (.int .u8 (zs.getD i.toNat 0)) := by
        rw [blk_cell HBK.out]; simp [nums, hidx, List.getElem?_eq_getElem hidx]
      have hf := blk_frozen HBK.out i.toNat
      have hwi : IntKind.i64.wrap (i + 1) = i + 1 := IntWalk.i64_in _ (by have := HM.out; omega)
      obtain ⟨x, hx⟩ : ∃ x, x = zs.getD i.toNat 0 := ⟨_, rfl⟩
      rw [← hx] at hc
      clear hidx hx
      gi_wp2
      refine ⟨⟨i + 1, zs.set i.toNat (Go.bits .xor .u8 x 90), rfl, by omega, ⟨by omega⟩, ⟨by rw [List.length_set]; exact HZ.out⟩, ⟨blk_put HBK.out _ _ (nums_set _ _ _ _)⟩, ⟨grownBy_put HGR.out _ _⟩⟩, ?_⟩
      show ((cap : Int) - (i + 1)).toNat < ((cap : Int) - i).toNat
      omega
    · have hlt1 : decide (i < (cap : Int)) = false := decide_eq_false hlt
      gi_wp2
      go_end0
      exact ⟨⟨_, rfl⟩, HGR.out⟩

set_option maxHeartbeats 4000000 in
set_option maxRecDepth 100000 in
theorem ostiarykit_OverBytes.nil_ (n : Nat) (hn : 1 ≤ n) (w : World) :
    CallsIn Fence.wide n Try.prog 33 #[.slice none 0 0] w fun e w' => (∃ u, e = .returned u) ∧ w.grownBy w' none := by
  have hs : ∀ (W : World), (Instr.slice 22 (.slice none 0 0) none (some (.int .i64 0)) none).run Try.prog W = .ok (.slice none 0 0) W := fun W => by
    simp only [go_sem, Try.underlying22]
    simp
    rw [run_sliceBound W .i64 (0 : Int) 0 .sliceAcap (by omega) (by omega)]
    simp
  refine callsIn_of_wp Try.func33 rfl trivial ?_ rfl
  simp only [Try.ntmps33, List.size_toArray, List.length_cons, List.length_nil, Nat.reduceAdd, Nat.reduceSub, Array.replicate_succ, Array.replicate_zero, List.push_toArray, List.append_toArray, List.nil_append, List.cons_append]
  gi_wp2
  gi_loopw [3] (fun p wr => p = .int .i64 0 ∧ wr = w) (fun p _ => 0)
  case atStart => exact ⟨rfl, rfl⟩
  case round =>
    obtain ⟨rfl, rfl⟩ := hrel
    gi_wp2
    go_end0
    exact ⟨⟨_, rfl⟩, ⟨rfl, rfl, rfl, Nat.le_refl _, fun _ _ _ => rfl⟩⟩

/-- OverBytes of bytes of one's own: nothing but their row turns. -/
theorem ostiarykit_OverBytes.full (n : Nat) (hn : 1 ≤ n) {w : World} {base : Nat} {v : Value} {xs : List Int} (h : Full w base v xs) :
    CallsIn Fence.wide n Try.prog 33 #[v] w fun e w' => (∃ u, e = .returned u) ∧ w.grownBy w' v.ownBlock := by
  rcases h with ⟨rfl, rfl⟩ | ⟨g, zs, rfl, hb, hg, hl⟩
  · exact ostiarykit_OverBytes.nil_ n hn w
  · exact ostiarykit_OverBytes.row n hn g _ _ (xs ++ zs) (by simp) (by omega) hl w hg
end Go.Proofs.Ytjjbhpbmfpodeaa.X
