/- The chapter's examples are answered as it says: the walk of the statement's code. -/
import Derived.Test.YtjjbhpbmfpodeaaH3
import Derived.Test.YtjjbhpbmfpodeaaX28
import Derived.Test.YtjjbhpbmfpodeaaX30
import Derived.Test.YtjjbhpbmfpodeaaX35
import Derived.Test.YtjjbhpbmfpodeaaX37
import Derived.Test.YtjjbhpbmfpodeaaX39
import Derived.Test.YtjjbhpbmfpodeaaX1031
namespace Go.Proofs.Ytjjbhpbmfpodeaa.X
open Go.RowKit Go.Proofs.Ytjjbhpbmfpodeaa.PB Go.Proofs.YtjjbhpbmfpodeaaW.PrintWords Go.Proofs.YtjjbhpbmfpodeaaW.PrintLast Go.Proofs.YtjjbhpbmfpodeaaW.PrintMore
set_option linter.unusedVariables false
set_option linter.unusedSimpArgs false
attribute [local go_sem] Oper.semAt_some

/-- What lies in a closed statement's world: faults in blocks of their own; bytes of one's own. -/
structure Sk (w : World) (bs : List (Nat × Int × Int)) (rs : List (Nat × Nat × Value × List Int)) (W : World) : Prop where
  below : Below w.heap.size w W
  faults : ∀ p ∈ bs, W.heap[p.1]? = some (.cells #[.int .i64 p.2.1, .int .i64 p.2.2] 31 (0, 0))
  rows : ∀ r ∈ rs, Own5 W r.1 r.2.1 r.2.2.1 r.2.2.2
variable {w W W' : World} {bs : List (Nat × Int × Int)} {rs : List (Nat × Nat × Value × List Int)}
theorem Sk.any (h : Sk w bs rs W) (o : Obj) : Sk w bs rs (W.alloc o) := ⟨below_alloc h.below _, fun p hp => blk_alloc (h.faults p hp) _, fun r hr => (h.rows r hr).below (below_alloc (Below.refl _ _) _)⟩
theorem Sk.flt (h : Sk w bs rs W) (a b : Int) : Sk w ((W.heap.size, a, b) :: bs) rs (W.alloc (Obj.cells #[.int .i64 a, .int .i64 b] 31)) :=
  ⟨below_alloc h.below _, fun p hp => by
    rcases List.mem_cons.1 hp with rfl | hp
    · exact blk_new W _
    · exact blk_alloc (h.faults p hp) _, fun r hr => (h.rows r hr).below (below_alloc (Below.refl _ _) _)⟩
theorem Sk.next (h : Sk w bs rs W) (hb : Below W.heap.size W W') : Sk w bs rs W' :=
  ⟨h.below.trans (hb.mono h.below.size), fun p hp => blk_below (h.faults p hp) hb, fun r hr => (h.rows r hr).below hb⟩
theorem Sk.row (h : Sk w bs rs W) {base hi : Nat} {v : Value} {xs : List Int} (ho : Own5 W base hi v xs) : Sk w bs ((base, hi, v, xs) :: rs) W :=
  ⟨h.below, h.faults, fun r hr => by
    rcases List.mem_cons.1 hr with rfl | hr
    · exact ho
    · exact h.rows r hr⟩
theorem Sk.drawn (h : Sk w bs rs W) {n : Nat} : Sk w bs rs (W.drewN n) := h.next (pw_below_drewN (Below.refl _ _) _)

theorem e28 : octet_Put16.f 65536 = some ([], 5) := put16_no (.inr (by decide))
theorem e30 : octet_Put32.f 65536 = some ([0, 1, 0, 0], 0) := put32_ok (by decide) (by decide)
theorem e35 : octet_Get16.f [9, 1, 2] 2 = some (0, 0, 4, 3) := get16_of (get_short (by decide) (.inl rfl) (by simp) (by decide) (by decide) (by decide))
theorem e37 : octet_Get32.f [9] 2 = some (0, 0, 5, 0) := get32_of (get_range (by decide) (.inr rfl) (by simp) (.inr (by decide)))
theorem e39a : octet_Bytes.f 2 [1, 2, 3] 1 2 = some ([2, 3], 3, 0, 0) := bytes_ok (by simp) (by decide) (by decide) (by decide)
theorem e39b : octet_Bytes.f 2 [1, 2, 3] 3 0 = some ([], 3, 0, 0) := bytes_ok (by simp) (by decide) (by decide) (by decide)
theorem e39c : octet_Bytes.f 2 [1] 0 (-1) = some ([], 0, 2, 0) := bytes_arg (by decide)

theorem C_lit (W : World) (xs : List Int) (h : xs.length ≤ 100) (cs : Array Value) (hc : cs = (nums .u8 xs).toArray) : Kd.C (Kd.int .u8) (W.alloc (.cells cs 5)) (some ⟨W.heap.size, 0, none⟩) xs.length xs := by
  subst hc; exact C_of_blk (blk_new W _) (by omega)
theorem k35 (W : World) (g : Nat) (hg : W.heap.size = g) : Calls Try.prog 35 #[.slice (some ⟨g, 0, none⟩) 3 3, .int .i64 2] (W.alloc (Obj.cells #[.int .u8 9, .int .u8 1, .int .u8 2] 5)) fun e w' => e = .returned (.tuple #[.int .i64 0, .int .i64 0, .agg #[.int .i64 4, .int .i64 3]]) ∧ Below (W.alloc (Obj.cells #[.int .u8 9, .int .u8 1, .int .u8 2] 5)).heap.size (W.alloc (Obj.cells #[.int .u8 9, .int .u8 1, .int .u8 2] 5)) w' := by
  subst hg
  exact octet_Get16.calls (some ⟨W.heap.size, 0, none⟩) 3 [9, 1, 2] 2 0 0 4 3 _ (C_lit W [9, 1, 2] (by decide) _ rfl) (by decide) e35
theorem k37 (W : World) (g : Nat) (hg : W.heap.size = g) : Calls Try.prog 37 #[.slice (some ⟨g, 0, none⟩) 1 1, .int .i64 2] (W.alloc (Obj.cells #[.int .u8 9] 5)) fun e w' => e = .returned (.tuple #[.int .i64 0, .int .i64 0, .agg #[.int .i64 5, .int .i64 0]]) ∧ Below (W.alloc (Obj.cells #[.int .u8 9] 5)).heap.size (W.alloc (Obj.cells #[.int .u8 9] 5)) w' := by
  subst hg
  exact octet_Get32.calls (some ⟨W.heap.size, 0, none⟩) 1 [9] 2 0 0 5 0 _ (C_lit W [9] (by decide) _ rfl) (by decide) e37
theorem k39a (W : World) (g : Nat) (hg : W.heap.size = g) : Calls Try.prog 39 #[.slice (some ⟨g, 0, none⟩) 3 3, .int .i64 1, .int .i64 2] (W.alloc (Obj.cells #[.int .u8 1, .int .u8 2, .int .u8 3] 5)) fun e w' => ∃ v0_ : Value, e = .returned (.tuple #[v0_, .int .i64 3, .agg #[.int .i64 0, .int .i64 0]]) ∧ Kd.R (Kd.int .u8) 5 w' (W.alloc (Obj.cells #[.int .u8 1, .int .u8 2, .int .u8 3] 5)).heap.size (fun _ => True) v0_ [2, 3] ∧ Below (W.alloc (Obj.cells #[.int .u8 1, .int .u8 2, .int .u8 3] 5)).heap.size (W.alloc (Obj.cells #[.int .u8 1, .int .u8 2, .int .u8 3] 5)) w' := by
  subst hg
  exact octet_Bytes.calls 2 (some ⟨W.heap.size, 0, none⟩) 3 [1, 2, 3] 1 2 [2, 3] 3 0 0 _ (C_lit W [1, 2, 3] (by decide) _ rfl) (by decide) e39a
theorem k39b (W : World) (g : Nat) (hg : W.heap.size = g) : Calls Try.prog 39 #[.slice (some ⟨g, 0, none⟩) 3 3, .int .i64 3, .int .i64 0] (W.alloc (Obj.cells #[.int .u8 1, .int .u8 2, .int .u8 3] 5)) fun e w' => ∃ v0_ : Value, e = .returned (.tuple #[v0_, .int .i64 3, .agg #[.int .i64 0, .int .i64 0]]) ∧ Kd.R (Kd.int .u8) 5 w' (W.alloc (Obj.cells #[.int .u8 1, .int .u8 2, .int .u8 3] 5)).heap.size (fun _ => True) v0_ [] ∧ Below (W.alloc (Obj.cells #[.int .u8 1, .int .u8 2, .int .u8 3] 5)).heap.size (W.alloc (Obj.cells #[.int .u8 1, .int .u8 2, .int .u8 3] 5)) w' := by
  subst hg
  exact octet_Bytes.calls 2 (some ⟨W.heap.size, 0, none⟩) 3 [1, 2, 3] 3 0 [] 3 0 0 _ (C_lit W [1, 2, 3] (by decide) _ rfl) (by decide) e39b
theorem k39c (W : World) (g : Nat) (hg : W.heap.size = g) : Calls Try.prog 39 #[.slice (some ⟨g, 0, none⟩) 1 1, .int .i64 0, .int .i64 (-1)] (W.alloc (Obj.cells #[.int .u8 1] 5)) fun e w' => ∃ v0_ : Value, e = .returned (.tuple #[v0_, .int .i64 0, .agg #[.int .i64 2, .int .i64 0]]) ∧ Kd.R (Kd.int .u8) 5 w' (W.alloc (Obj.cells #[.int .u8 1] 5)).heap.size (fun _ => True) v0_ [] ∧ Below (W.alloc (Obj.cells #[.int .u8 1] 5)).heap.size (W.alloc (Obj.cells #[.int .u8 1] 5)) w' := by
  subst hg
  exact octet_Bytes.calls 2 (some ⟨W.heap.size, 0, none⟩) 1 [1] 0 (-1) [] 0 2 0 _ (C_lit W [1] (by decide) _ rfl) (by decide) e39c
theorem k32a (W : World) (g : Nat) (hg : W.heap.size = g) (A : Option Addr) (c base hi : Nat) (hr : Own5 W base hi (.slice A 4 c) [0, 1, 0, 0]) (hc : 4 ≤ c) : Calls Try.prog 32 #[.slice A 4 c, .slice (some ⟨g, 0, none⟩) 4 4] (W.alloc (Obj.cells #[.int .u8 0, .int .u8 1, .int .u8 0, .int .u8 0] 5)) fun e w' => e = .returned (.bool true) ∧ Drawn0 (W.alloc (Obj.cells #[.int .u8 0, .int .u8 1, .int .u8 0, .int .u8 0] 5)) w' := by
  subst hg
  exact ostiarykit_SameBytes.calls A c [0, 1, 0, 0] (some ⟨W.heap.size, 0, none⟩) 4 [0, 1, 0, 0] true _ (Own5.reads (hr.below (below_alloc (Below.refl _ _) _))) hc (C_lit W [0, 1, 0, 0] (by decide) _ rfl) (by decide) (same_self _)
theorem k32b (W : World) (g : Nat) (hg : W.heap.size = g) (A : Option Addr) (c base hi : Nat) (hr : Own5 W base hi (.slice A 2 c) [2, 3]) (hc : 2 ≤ c) : Calls Try.prog 32 #[.slice A 2 c, .slice (some ⟨g, 0, none⟩) 2 2] (W.alloc (Obj.cells #[.int .u8 2, .int .u8 3] 5)) fun e w' => e = .returned (.bool true) ∧ Drawn0 (W.alloc (Obj.cells #[.int .u8 2, .int .u8 3] 5)) w' := by
  subst hg
  exact ostiarykit_SameBytes.calls A c [2, 3] (some ⟨W.heap.size, 0, none⟩) 2 [2, 3] true _ (Own5.reads (hr.below (below_alloc (Below.refl _ _) _))) hc (C_lit W [2, 3] (by decide) _ rfl) (by decide) (same_self _)

set_option maxHeartbeats 16000000 in
set_option maxRecDepth 100000 in
theorem ostiarylaw03_OctetKnown.in_ (n : Nat) (hn : 5 ≤ n) (w : World) :
    CallsIn Fence.wide n Try.prog 7 #[] w fun e w' => e = .returned (.bool true) ∧ Below w.heap.size w w' := by
  have HS0 : Aside0 (Sk w [] [] w) := ⟨⟨Below.refl _ _, fun p hp => by simp at hp, fun p hp => by simp at hp⟩⟩
  refine callsIn_of_wp Try.func7 rfl trivial ?_ rfl
  simp only [Try.ntmps7, List.size_toArray, List.length_cons, List.length_nil, Nat.reduceAdd, Nat.reduceSub, Array.replicate_succ, Array.replicate_zero, List.push_toArray, List.append_toArray, List.nil_append, List.cons_append]
  gi_wp2_with (first
    | (first | refine ⟨trivial, fun _ => by omega, ?_⟩ | refine ⟨trivial, ?_⟩); refine (callsIn_wide.2 (octet_Put16.calls 65536 [] 5 w e28)).mono ?_; rintro e w1 ⟨v, rfl, hd, hb⟩; obtain ⟨A1, c1, rfl, _, _⟩ := Kd.R_reads hd; have HS1 := Aside0.mk (HS0.out.next hb); clear hd hb HS0
    | (first | refine ⟨trivial, fun _ => by omega, ?_⟩ | refine ⟨trivial, ?_⟩); refine (callsIn_wide.2 (octet_Put32.calls 65536 [0, 1, 0, 0] 0 w1 e30)).mono ?_; rintro e w2 ⟨v, rfl, hd, hb⟩; obtain ⟨A2, c2, rfl, hc2, _⟩ := Kd.R_reads hd; have C2 : Aside0 (4 ≤ c2) := ⟨hc2⟩; obtain ⟨lo2, hi2, hlh2⟩ : ∃ lo hi, Own5 w2 lo hi (.slice A2 4 c2) [0, 1, 0, 0] := ⟨_, _, Own5.mk_ hd⟩; have HS2 := Aside0.mk ((HS1.out.next hb).row hlh2); clear hd hb HS1 hc2 hlh2
    | (first | refine ⟨trivial, fun _ => by omega, ?_⟩ | refine ⟨trivial, ?_⟩); (with_reducible refine (callsIn_wide.2 (k35 w2 _ ?hgg)).mono ?_); (case hgg => rfl); rintro e w3 ⟨rfl, hb⟩; have HS3 := Aside0.mk (((HS2.out.any _).next hb).flt 4 3); clear hb HS2
    | (first | refine ⟨trivial, fun _ => by omega, ?_⟩ | refine ⟨trivial, ?_⟩); (with_reducible refine (callsIn_wide.2 (k37 _ _ ?hgg)).mono ?_); (case hgg => simp); rintro e w4 ⟨rfl, hb⟩; have HS4 := Aside0.mk (((HS3.out.any _).next hb).flt 5 0); clear hb HS3
    | (first | refine ⟨trivial, fun _ => by omega, ?_⟩ | refine ⟨trivial, ?_⟩); (with_reducible refine (callsIn_wide.2 (k39a _ _ ?hgg)).mono ?_); (case hgg => simp); rintro e w5 ⟨v, rfl, hd, hb⟩; obtain ⟨A5, c5, rfl, hc5, _⟩ := Kd.R_reads hd; have C5 : Aside0 (2 ≤ c5) := ⟨hc5⟩; obtain ⟨lo5, hi5, hlh5⟩ : ∃ lo hi, Own5 w5 lo hi (.slice A5 2 c5) [2, 3] := ⟨_, _, Own5.mk_ hd⟩; have HS5 := Aside0.mk ((((HS4.out.any _).next hb).row hlh5).flt 0 0); clear hb HS4 hd hc5 hlh5
    | (first | refine ⟨trivial, fun _ => by omega, ?_⟩ | refine ⟨trivial, ?_⟩); (with_reducible refine (callsIn_wide.2 (k39b _ _ ?hgg)).mono ?_); (case hgg => simp); rintro e w6 ⟨v, rfl, hd, hb⟩; obtain ⟨A6, c6, rfl, _, _⟩ := Kd.R_reads hd; have HS6 := Aside0.mk (((HS5.out.any _).next hb).flt 0 0); clear hb HS5 hd
    | (first | refine ⟨trivial, fun _ => by omega, ?_⟩ | refine ⟨trivial, ?_⟩); (with_reducible refine (callsIn_wide.2 (k39c _ _ ?hgg)).mono ?_); (case hgg => simp); rintro e w7 ⟨v, rfl, hd, hb⟩; obtain ⟨A7, c7, rfl, _, _⟩ := Kd.R_reads hd; have HS7 := Aside0.mk (((HS6.out.any _).next hb).flt 2 0); clear hb HS6 hd
    | (first | refine ⟨trivial, fun _ => by omega, ?_⟩ | refine ⟨trivial, ?_⟩); (with_reducible refine (callsIn_wide.2 (k32a _ _ ?hgg A2 c2 lo2 hi2 (HS7.out.rows (lo2, hi2, .slice A2 4 c2, [0, 1, 0, 0]) (by simp)) C2.out)).mono ?_); (case hgg => simp); rintro e w8 ⟨rfl, nd, hw8⟩; have HS8 : Aside0 (Sk w _ _ w8) := ⟨by rw [hw8]; exact (HS7.out.any _).drawn⟩; clear hw8 HS7; have kw30 := (blk_cell (HS8.out.faults (w3.heap.size, 4, 3) (by simp)) 0).trans rfl; have kw31 := (blk_cell (HS8.out.faults (w3.heap.size, 4, 3) (by simp)) 1).trans rfl; have kw40 := (blk_cell (HS8.out.faults (w4.heap.size, 5, 0) (by simp)) 0).trans rfl; have kw41 := (blk_cell (HS8.out.faults (w4.heap.size, 5, 0) (by simp)) 1).trans rfl; have kw50 := (blk_cell (HS8.out.faults (w5.heap.size, 0, 0) (by simp)) 0).trans rfl; have kw51 := (blk_cell (HS8.out.faults (w5.heap.size, 0, 0) (by simp)) 1).trans rfl; have kw60 := (blk_cell (HS8.out.faults (w6.heap.size, 0, 0) (by simp)) 0).trans rfl; have kw61 := (blk_cell (HS8.out.faults (w6.heap.size, 0, 0) (by simp)) 1).trans rfl; have kw70 := (blk_cell (HS8.out.faults (w7.heap.size, 2, 0) (by simp)) 0).trans rfl; have kw71 := (blk_cell (HS8.out.faults (w7.heap.size, 2, 0) (by simp)) 1).trans rfl
    | (first | refine ⟨trivial, fun _ => by omega, ?_⟩ | refine ⟨trivial, ?_⟩); refine (callsIn_wide.2 (ostiarylaw03_awake.calls true w8 PB.awake)).mono ?_; rintro e w9 ⟨rfl, hb⟩; have HS9 := Aside0.mk (HS8.out.next hb); clear hb HS8
    | (first | refine ⟨trivial, fun _ => by omega, ?_⟩ | refine ⟨trivial, ?_⟩); (with_reducible refine (callsIn_wide.2 (k32b w9 _ ?hgg A5 c5 lo5 hi5 (HS9.out.rows (lo5, hi5, .slice A5 2 c5, [2, 3]) (by simp)) C5.out)).mono ?_); (case hgg => rfl); rintro e w10 ⟨rfl, nd, hw10⟩; have HS10 : Aside0 (Sk w _ _ w10) := ⟨by rw [hw10]; exact (HS9.out.any _).drawn⟩; clear hw10 HS9; have kw30 := (blk_cell (HS10.out.faults (w3.heap.size, 4, 3) (by simp)) 0).trans rfl; have kw31 := (blk_cell (HS10.out.faults (w3.heap.size, 4, 3) (by simp)) 1).trans rfl; have kw40 := (blk_cell (HS10.out.faults (w4.heap.size, 5, 0) (by simp)) 0).trans rfl; have kw41 := (blk_cell (HS10.out.faults (w4.heap.size, 5, 0) (by simp)) 1).trans rfl; have kw50 := (blk_cell (HS10.out.faults (w5.heap.size, 0, 0) (by simp)) 0).trans rfl; have kw51 := (blk_cell (HS10.out.faults (w5.heap.size, 0, 0) (by simp)) 1).trans rfl; have kw60 := (blk_cell (HS10.out.faults (w6.heap.size, 0, 0) (by simp)) 0).trans rfl; have kw61 := (blk_cell (HS10.out.faults (w6.heap.size, 0, 0) (by simp)) 1).trans rfl; have kw70 := (blk_cell (HS10.out.faults (w7.heap.size, 2, 0) (by simp)) 0).trans rfl; have kw71 := (blk_cell (HS10.out.faults (w7.heap.size, 2, 0) (by simp)) 1).trans rfl)
  go_ret
  exact ⟨rfl, HS10.out.below⟩

theorem ostiarylaw03_OctetKnown.walk (w : World) : Calls Try.prog 7 #[] w fun e w' => e = .returned (.bool true) ∧ Below w.heap.size w w' :=
  callsIn_wide.1 (ostiarylaw03_OctetKnown.in_ 5 (by omega) w)
end Go.Proofs.Ytjjbhpbmfpodeaa.X
