/- octet.Bytes hands back bytes of its own, spare room and all. -/
import Derived.Test.YtjjbhpbmfpodeaaFA
import Derived.Test.YtjjbhpbmfpodeaaX39
import Derived.Test.YtjjbhpbmfpodeaaPB
namespace Go.Proofs.Ytjjbhpbmfpodeaa.X
open Go.RowKit Go.Proofs.Ytjjbhpbmfpodeaa.PB Go.Proofs.YtjjbhpbmfpodeaaW.PrintWords Go.Proofs.YtjjbhpbmfpodeaaW.PrintLast Go.Proofs.YtjjbhpbmfpodeaaW.PrintMore
set_option linter.unusedVariables false
set_option linter.unusedSimpArgs false
attribute [local go_sem] Oper.semAt_some

/-- What Bytes tells. -/
def bytesR (l : List Int) (a n : Int) : List Int × Int × Int × Int :=
  if n < 0 then ([], 0, 2, 0) else if a < 0 ∨ (l.length : Int) < a then ([], 0, 5, 0) else if (l.length : Int) < a + n then ([], 0, 4, (l.length : Int)) else ((l.drop a.toNat).take n.toNat, a + n, 0, 0)

theorem bytesR_f {k : Nat} {l : List Int} {a n : Int} (hl : l.length ≤ 140737488351232) : octet_Bytes.f (k + 1) l a n = some (bytesR l a n) := by
  unfold bytesR
  by_cases h1 : n < 0
  · rw [if_pos h1]; exact bytes_arg h1
  · rw [if_neg h1]
    by_cases h2 : a < 0 ∨ (l.length : Int) < a
    · rw [if_pos h2]; exact bytes_range h2 (by omega)
    · rw [if_neg h2]
      by_cases h3 : (l.length : Int) < a + n
      · rw [if_pos h3]; exact bytes_short hl (by omega) (by omega) (by omega) h3
      · rw [if_neg h3]; exact bytes_ok hl (by omega) (by omega) (by omega)

theorem Full.lower {w : World} {base base' : Nat} {v : Value} {xs : List Int} (h : Full w base v xs) (hb : base' ≤ base) : Full w base' v xs := by
  rcases h with h | ⟨g, zs, rfl, h1, hg, hl⟩
  · exact .inl h
  · exact .inr ⟨g, zs, rfl, by omega, hg, hl⟩
theorem Full.far {w : World} {base : Nat} {v : Value} {xs : List Int} (h : Full w base v xs) {p : Addr} (hp : p.block < base) (u : Value) : Full (w.setCell p u) base v xs := by
  rcases h with h | ⟨g, zs, rfl, h1, hg, hl⟩
  · exact .inl h
  · exact .inr ⟨g, zs, rfl, h1, blk_far hg (by omega) u, hl⟩

set_option maxHeartbeats 4000000 in
set_option maxRecDepth 100000 in
theorem octet_Bytes.full (m : Nat) (hm : 1 ≤ m) (A0 : Option Addr) (c0 : Nat) (l0 : List Int) (a n : Int) (w : World) (hr0 : Kd.C (Kd.int .u8) w A0 l0.length l0) (hc0 : l0.length ≤ c0) (hl : l0.length ≤ 100000000000) (ha : -9223372036854775808 ≤ a ∧ a ≤ 9223372036854775807) :
    CallsIn Fence.wide m Try.prog 39 #[.slice A0 l0.length c0, .int .i64 a, .int .i64 n] w fun e w' => ∃ v : Value,
      e = .returned (.tuple #[v, .int .i64 (bytesR l0 a n).2.1, .agg #[.int .i64 (bytesR l0 a n).2.2.1, .int .i64 (bytesR l0 a n).2.2.2]]) ∧ Full w' w.heap.size v (bytesR l0 a n).1 ∧ Below w.heap.size w w' := by
  have HR := Aside0.mk hr0
  have HC := Aside0.mk hc0
  have HL := Aside0.mk hl
  clear hr0 hc0 hl
  refine callsIn_of_wp Try.func39 rfl trivial ?_ rfl
  simp only [Try.ntmps39, List.size_toArray, List.length_cons, List.length_nil, Nat.reduceAdd, Nat.reduceSub, Array.replicate_succ, Array.replicate_zero, List.push_toArray, List.append_toArray, List.nil_append, List.cons_append]
  unfold bytesR
  by_cases h1 : n < 0
  · have d1 : decide (n < 0) = true := decide_eq_true h1
    rw [if_pos h1]
    gi_wp2
    refine bodyPost_ret (results_list (rs := [.tmp 6, .tmp 7, .cell 8 31]) rfl (by simp) (.tmp (.tmp (.cell w.heap.size 31 #[.int .i64 2, .int .i64 0] (0, 0) _ rfl (blk_new w _) Try.underlying31 rfl (by kernel_rfl) .nil)))) rfl ?_
    exact ⟨_, rfl, .inl ⟨rfl, rfl⟩, below_alloc (Below.refl _ _) _⟩
  have d1 : decide (n < 0) = false := decide_eq_false h1
  rw [if_neg h1]
  by_cases h2 : a < 0
  · have d2 : decide (a < 0) = true := decide_eq_true h2
    rw [if_pos (Or.inl h2)]
    gi_wp2
    refine bodyPost_ret (results_list (rs := [.tmp 6, .tmp 7, .cell 8 31]) rfl (by simp) (.tmp (.tmp (.cell w.heap.size 31 #[.int .i64 5, .int .i64 0] (0, 0) _ rfl (blk_new w _) Try.underlying31 rfl (by kernel_rfl) .nil)))) rfl ?_
    exact ⟨_, rfl, .inl ⟨rfl, rfl⟩, below_alloc (Below.refl _ _) _⟩
  by_cases h3 : (l0.length : Int) < a
  · have d2 : decide (a < 0) = false := decide_eq_false h2
    have d3 : decide ((l0.length : Int) < a) = true := decide_eq_true h3
    rw [if_pos (Or.inr h3)]
    gi_wp2
    refine bodyPost_ret (results_list (rs := [.tmp 6, .tmp 7, .cell 8 31]) rfl (by simp) (.tmp (.tmp (.cell w.heap.size 31 #[.int .i64 5, .int .i64 0] (0, 0) _ rfl (blk_new w _) Try.underlying31 rfl (by kernel_rfl) .nil)))) rfl ?_
    exact ⟨_, rfl, .inl ⟨rfl, rfl⟩, below_alloc (Below.refl _ _) _⟩
  have d2 : decide (a < 0) = false := decide_eq_false h2
  have d3 : decide ((l0.length : Int) < a) = false := decide_eq_false h3
  rw [if_neg (fun h => h.elim h2 h3)]
  have hw1 : IntKind.i64.wrap ((l0.length : Int) - a) = (l0.length : Int) - a := IntWalk.i64_in _ (by have := HL.out; omega)
  by_cases h4 : (l0.length : Int) < a + n
  · have d4 : decide ((l0.length : Int) - a < n) = true := decide_eq_true (by omega)
    rw [if_pos h4]
    gi_wp2
    refine bodyPost_ret (results_list (rs := [.tmp 6, .tmp 7, .cell 8 31]) rfl (by simp) (.tmp (.tmp (.cell w.heap.size 31 #[.int .i64 4, .int .i64 (l0.length : Int)] (0, 0) _ rfl (blk_new w _) Try.underlying31 rfl (by kernel_rfl) .nil)))) rfl ?_
    exact ⟨_, rfl, .inl ⟨rfl, rfl⟩, below_alloc (Below.refl _ _) _⟩
  have d4 : decide ((l0.length : Int) - a < n) = false := decide_eq_false (by omega)
  have hw2 : IntKind.i64.wrap (a + n) = a + n := IntWalk.i64_in _ (by have := HL.out; omega)
  rw [if_neg h4]
  obtain ⟨i5, hi5, _, hsz5, _⟩ := info_parts info5
  obtain ⟨A1, hsl, hC1, hc1⟩ := print_mid_of (P := Try.prog) (Value.int .u8) (0 : Int) 22 5 .i64 .i64 Try.underlying22 hi5 hsz5 A0 c0 l0 a (a + n) (by omega) (by omega) (by omega) HC.out
  have hys : (l0.take (a + n).toNat).drop a.toNat = (l0.drop a.toNat).take n.toNat := by
    rw [List.drop_take]; congr 1; omega
  rw [hys] at hsl hC1 hc1
  obtain ⟨ys, hy⟩ : ∃ ys, ys = (l0.drop a.toNat).take n.toNat := ⟨_, rfl⟩
  rw [← hy] at hsl hC1 hc1 ⊢
  have HYL : Aside0 (ys.length ≤ 100000000000) := ⟨by rw [hy]; simp; have := HL.out; omega⟩
  have HC1 := Aside0.mk (Kd.C_of_reads (h1 := fun _ => rfl) (hC1 w (Kd.reads_of_C HR.out)))
  clear hy hys hC1 hc1
  have HE : Aside0 (((w.alloc (Obj.cells #[.int .i64 0, .int .i64 0] 31)).alloc (Obj.cells #[] 5)).heap[w.heap.size + 1]? = some (.cells (nums .u8 ([] ++ [])).toArray 5 (0, 0))) := ⟨by have := World.alloc_heap_new (w.alloc (Obj.cells #[.int .i64 0, .int .i64 0] 31)) (Obj.cells #[] 5); rwa [World.size_alloc] at this⟩
  have HBA : Aside0 (Below w.heap.size w ((w.alloc (Obj.cells #[.int .i64 0, .int .i64 0] 31)).alloc (Obj.cells #[] 5))) := ⟨below_alloc (below_alloc (Below.refl _ _) _) _⟩
  gi_wp2_with (gi_at_builtin; refine wpListIn_append_full _ rfl _ _ rfl (w.heap.size + 1) (.slice (some ⟨w.heap.size + 1, 0, none⟩) 0 0) [] rfl (.inr ⟨w.heap.size + 1, [], rfl, by omega, HE.out, by simp⟩) A1 ys.length _ ys rfl (Kd.C_below HC1.out HBA.out) (by have := HYL.out; simp; omega) (by simp) ?_; intro v' w' hf' hg'; have hfb := blk_grown (blk_alloc (blk_new w (Obj.cells #[.int .i64 0, .int .i64 0] 31)) (Obj.cells #[] 5)) hg' (by simp [Value.ownBlock]); have he0 := (blk_cell hfb 0).trans rfl; have he1 := (blk_cell hfb 1).trans rfl; have hz0 := blk_frozen hfb 0; have hz1 := blk_frozen hfb 1)
  have hb' : Below w.heap.size w w' := HBA.out.grown hg' (by simp; omega) (fun j e => by simp [Value.ownBlock] at e; omega)
  refine bodyPost_ret (results_list (rs := [.tmp 6, .tmp 7, .cell 8 31]) rfl (by simp) (.tmp (.tmp (.cell w.heap.size 31 #[.int .i64 0, .int .i64 0] (0, 0) _ rfl (by refine blk_put (cs := #[.int .i64 0, .int .i64 0]) ?_ 1 _ rfl; refine blk_put (cs := #[.int .i64 0, .int .i64 0]) hfb 0 _ rfl) Try.underlying31 rfl (by kernel_rfl) .nil)))) rfl ?_
  rw [List.nil_append] at hf'
  exact ⟨v', rfl, ((hf'.far (p := ⟨w.heap.size, 0, none⟩) (by simp) _).far (p := ⟨w.heap.size, 1, none⟩) (by simp) _).lower (by omega), (hb'.setCell (p := ⟨w.heap.size, 0, none⟩) (Nat.le_refl _) _).setCell (p := ⟨w.heap.size, 1, none⟩) (Nat.le_refl _) _⟩
end Go.Proofs.Ytjjbhpbmfpodeaa.X
