/- Which number any bytes are, at a place, and which bytes stand there, is told as the document says: the walk of the statement's code. -/
import Derived.Test.YtjjbhpbmfpodeaaPG
import Derived.Test.YtjjbhpbmfpodeaaX35
import Derived.Test.YtjjbhpbmfpodeaaX37
import Derived.Test.YtjjbhpbmfpodeaaX34
import Derived.Test.YtjjbhpbmfpodeaaX1031
namespace Go.Proofs.Ytjjbhpbmfpodeaa.X
open Go.RowKit Go.Proofs.Ytjjbhpbmfpodeaa.PB Go.Proofs.YtjjbhpbmfpodeaaW.PrintWords Go.Proofs.YtjjbhpbmfpodeaaW.PrintLast Go.Proofs.YtjjbhpbmfpodeaaW.PrintMore
set_option linter.unusedVariables false
set_option linter.unusedSimpArgs false
attribute [local go_sem] Oper.semAt_some

/-- What lies in a statement's world: the lent bytes in block g; faults in blocks of their own. -/
structure St (w : World) (g : Nat) (l0 : List Int) (bs : List (Nat × Int × Int)) (W : World) : Prop where
  below : Below w.heap.size w W
  lo : w.heap.size ≤ g
  lent : W.heap[g]? = some (.cells (nums .u8 (l0 ++ spare l0.length)).toArray 5 (0, 0))
  faults : ∀ p ∈ bs, W.heap[p.1]? = some (.cells #[.int .i64 p.2.1, .int .i64 p.2.2] 31 (0, 0))

def flt (a b : Int) : Obj := .cells #[.int .i64 a, .int .i64 b] 31
theorem St.alloc {w : World} {g : Nat} {l0 : List Int} {bs : List (Nat × Int × Int)} {W : World} (h : St w g l0 bs W) (a b : Int) : St w g l0 ((W.heap.size, a, b) :: bs) (W.alloc (Obj.cells #[.int .i64 a, .int .i64 b] 31)) :=
  ⟨below_alloc h.below _, h.lo, blk_alloc h.lent _, fun p hp => by
    rcases List.mem_cons.1 hp with rfl | hp
    · exact blk_new W _
    · exact blk_alloc (h.faults p hp) _⟩
theorem St.next {w : World} {g : Nat} {l0 : List Int} {bs : List (Nat × Int × Int)} {W W' : World} (h : St w g l0 bs W) (hb : Below W.heap.size W W') : St w g l0 bs W' :=
  ⟨h.below.trans (hb.mono h.below.size), h.lo, blk_below h.lent hb, fun p hp => blk_below (h.faults p hp) hb⟩

set_option maxHeartbeats 8000000 in
set_option maxRecDepth 100000 in
theorem ostiarylaw03_OctetGets.in_ (n : Nat) (hn : 5 ≤ n) (A0 : Option Addr) (c0 : Nat) (l0 : List Int) (a1 a2 : Int) (w : World) (hr0 : Kd.C (Kd.int .u8) w A0 l0.length l0) (hc0 : l0.length ≤ c0) (hb : bytesB l0 = true) (ha : -9223372036854775808 ≤ a1 ∧ a1 ≤ 9223372036854775807) :
    CallsIn Fence.wide n Try.prog 6 #[.slice A0 l0.length c0, .int .i64 a1, .int .i64 a2] w fun e w' => e = .returned (.bool true) ∧ Below w.heap.size w w' := by
  have HR := Aside0.mk hr0
  have HC := Aside0.mk hc0
  clear hr0 hc0
  refine callsIn_of_wp Try.func6 rfl trivial ?_ rfl
  simp only [Try.ntmps6, List.size_toArray, List.length_cons, List.length_nil, Nat.reduceAdd, Nat.reduceSub, Array.replicate_succ, Array.replicate_zero, List.push_toArray, List.append_toArray, List.nil_append, List.cons_append]
  by_cases hbig : (1000 : Int) < (l0.length : Int)
  · have h1 : decide ((1000 : Int) < (l0.length : Int)) = true := decide_eq_true hbig
    gi_wp2
    go_ret
    exact ⟨rfl, Below.refl _ _⟩
  have h1 : decide ((1000 : Int) < (l0.length : Int)) = false := decide_eq_false hbig
  have HL : Aside0 (l0.length ≤ 1000) := ⟨by omega⟩
  have H16 : Aside0 (octet_Get16.f l0 a1 = some (getR l0 a1 2)) := ⟨get16R hb (by omega)⟩
  have H32 : Aside0 (octet_Get32.f l0 a1 = some (getR l0 a1 4)) := ⟨get32R hb (by omega)⟩
  have R16 : Aside0 (ostiaryref03_Get16.f 5 l0 a1 = some (getR l0 a1 2)) := ⟨ref16R (k := 0) hb (by omega)⟩
  have R32 : Aside0 (ostiaryref03_Get32.f 5 l0 a1 = some (getR l0 a1 4)) := ⟨ref32R (k := 0) hb (by omega)⟩
  have RB : Aside0 (ostiaryref03_Bytes.f 1 l0 a1 a2 = some (bytesR l0 a1 a2)) := ⟨refBytes_f (k := 0) (by omega)⟩
  have HA := Aside0.mk ha
  obtain ⟨⟨x1, x2, x3, x4⟩, hx⟩ : ∃ x, x = getR l0 a1 2 := ⟨_, rfl⟩
  obtain ⟨⟨y1, y2, y3, y4⟩, hy⟩ : ∃ x, x = getR l0 a1 4 := ⟨_, rfl⟩
  obtain ⟨⟨z1, z2, z3, z4⟩, hz⟩ : ∃ x, x = bytesR l0 a1 a2 := ⟨_, rfl⟩
  have HB39 : Aside0 (∀ (m : Nat), 1 ≤ m → ∀ (A0 : Option Addr) (c0 : Nat) (w : World), Kd.C (Kd.int .u8) w A0 l0.length l0 → l0.length ≤ c0 → CallsIn Fence.wide m Try.prog 39 #[.slice A0 l0.length c0, .int .i64 a1, .int .i64 a2] w fun e w' => ∃ v : Value,
      e = .returned (.tuple #[v, .int .i64 z2, .agg #[.int .i64 z3, .int .i64 z4]]) ∧ Full w' w.heap.size v z1 ∧ Below w.heap.size w w') := ⟨fun m hm A c w hr hc => by
    have := octet_Bytes.full m hm A c l0 a1 a2 w hr hc (by omega) ha
    rw [← hz] at this; exact this⟩
  rw [← hx] at H16 R16
  rw [← hy] at H32 R32
  rw [← hz] at RB
  clear hx hy hz hbig hb ha
  gi_wp2_with (first
    | (first | refine ⟨trivial, fun _ => by omega, ?_⟩ | refine ⟨trivial, ?_⟩); refine (ostiarykit_LentBytes.in_ (n - 1) (by omega) A0 c0 l0 _ HR.out (by have := HL.out; omega)).mono ?_; rintro e w1 ⟨g, rfl, hg, hblk, hbl⟩; have HS1 : Aside0 (St w g l0 [] w1) := ⟨⟨hbl, hg, hblk, fun p hp => by simp at hp⟩⟩; clear hg hblk hbl
    | (first | refine ⟨trivial, fun _ => by omega, ?_⟩ | refine ⟨trivial, ?_⟩); refine (callsIn_wide.2 (octet_Get16.calls (some ⟨g, 0, none⟩) (l0.length + 3) l0 a1 x1 x2 x3 x4 w1 (C_of_pre2 HS1.out.lent (by have := HL.out; omega)) (by omega) H16.out)).mono ?_; rintro e w2 ⟨rfl, hb2⟩; have HS2 := Aside0.mk ((HS1.out.next hb2).alloc x3 x4); clear HS1 hb2
    | (first | refine ⟨trivial, fun _ => by omega, ?_⟩ | refine ⟨trivial, ?_⟩); refine (callsIn_wide.2 (ostiaryref03_Get16.calls 5 A0 c0 l0 a1 x1 x2 x3 x4 _ (Kd.C_below HR.out HS2.out.below) HC.out R16.out)).mono ?_; rintro e w3 ⟨rfl, hb2⟩; have HS3 := Aside0.mk ((HS2.out.next hb2).alloc x3 x4); clear HS2 hb2
    | (first | refine ⟨trivial, fun _ => by omega, ?_⟩ | refine ⟨trivial, ?_⟩); refine (callsIn_wide.2 (octet_Get32.calls (some ⟨g, 0, none⟩) (l0.length + 3) l0 a1 y1 y2 y3 y4 _ (C_of_pre2 HS3.out.lent (by have := HL.out; omega)) (by omega) H32.out)).mono ?_; rintro e w4 ⟨rfl, hb2⟩; have HS4 := Aside0.mk ((HS3.out.next hb2).alloc y3 y4); clear HS3 hb2
    | (first | refine ⟨trivial, fun _ => by omega, ?_⟩ | refine ⟨trivial, ?_⟩); refine (callsIn_wide.2 (ostiaryref03_Get32.calls 5 A0 c0 l0 a1 y1 y2 y3 y4 _ (Kd.C_below HR.out HS4.out.below) HC.out R32.out)).mono ?_; rintro e w5 ⟨rfl, hb2⟩; have HS5 := Aside0.mk ((HS4.out.next hb2).alloc y3 y4); clear HS4 hb2
    | (first | refine ⟨trivial, fun _ => by omega, ?_⟩ | refine ⟨trivial, ?_⟩); refine (HB39.out (n - 1) (by omega) (some ⟨g, 0, none⟩) (l0.length + 3) _ (C_of_pre2 HS5.out.lent (by have := HL.out; omega)) (by omega)).mono ?_; rintro e w6 ⟨v, rfl, hf, hb2⟩; obtain ⟨A6, c6, rfl, hc6, hC6⟩ := hf.reads; have HLO := Aside0.mk (blk_lt HS5.out.lent); have HS6 := Aside0.mk ((HS5.out.next hb2).alloc z3 z4); have HF6 := Aside0.mk (hf.below (below_alloc (Below.refl _ _) (Obj.cells #[.int .i64 z3, .int .i64 z4] 31))); have HC6 := Aside0.mk hc6; clear HS5 hb2 hf hC6 hc6
    | (first | refine ⟨trivial, fun _ => by omega, ?_⟩ | refine ⟨trivial, ?_⟩); refine (callsIn_wide.2 (ostiaryref03_Bytes.calls 1 A0 c0 l0 a1 a2 z1 z2 z3 z4 _ (Kd.C_below HR.out HS6.out.below) HC.out RB.out)).mono ?_; rintro e w7 ⟨v, rfl, hd, hb2⟩; obtain ⟨A7, c7, rfl, hc7, hC7⟩ := Kd.R_reads hd; have HS7 := Aside0.mk ((HS6.out.next hb2).alloc z3 z4); have HF7 := Aside0.mk ((HF6.out.below hb2).below (below_alloc (Below.refl _ _) (Obj.cells #[.int .i64 z3, .int .i64 z4] 31))); have HC7 := Aside0.mk hc7; have HD7 := Aside0.mk (Kd.C_below hC7 (below_alloc (Below.refl _ _) (Obj.cells #[.int .i64 z3, .int .i64 z4] 31))); have kw20 := (blk_cell (HS7.out.faults (w2.heap.size, x3, x4) (by simp)) 0).trans rfl; have kw21 := (blk_cell (HS7.out.faults (w2.heap.size, x3, x4) (by simp)) 1).trans rfl; have kw30 := (blk_cell (HS7.out.faults (w3.heap.size, x3, x4) (by simp)) 0).trans rfl; have kw31 := (blk_cell (HS7.out.faults (w3.heap.size, x3, x4) (by simp)) 1).trans rfl; have kw40 := (blk_cell (HS7.out.faults (w4.heap.size, y3, y4) (by simp)) 0).trans rfl; have kw41 := (blk_cell (HS7.out.faults (w4.heap.size, y3, y4) (by simp)) 1).trans rfl; have kw50 := (blk_cell (HS7.out.faults (w5.heap.size, y3, y4) (by simp)) 0).trans rfl; have kw51 := (blk_cell (HS7.out.faults (w5.heap.size, y3, y4) (by simp)) 1).trans rfl; have kw60 := (blk_cell (HS7.out.faults (w6.heap.size, z3, z4) (by simp)) 0).trans rfl; have kw61 := (blk_cell (HS7.out.faults (w6.heap.size, z3, z4) (by simp)) 1).trans rfl; have kw70 := (blk_cell (HS7.out.faults (w7.heap.size, z3, z4) (by simp)) 0).trans rfl; have kw71 := (blk_cell (HS7.out.faults (w7.heap.size, z3, z4) (by simp)) 1).trans rfl; clear HS6 hb2 hd hC7 hc7 HF6
    | (first | refine ⟨trivial, fun _ => by omega, ?_⟩ | refine ⟨trivial, ?_⟩); refine (callsIn_wide.2 (ostiarykit_SameBytes.calls A6 c6 z1 A7 c7 z1 true _ (by obtain ⟨A, c, e, _, hc⟩ := HF7.out.reads; cases e; exact hc) HC6.out HD7.out HC7.out (same_self z1))).mono ?_; rintro e w8 ⟨rfl, nd, rfl⟩
    | (first | refine ⟨trivial, fun _ => by omega, ?_⟩ | refine ⟨trivial, ?_⟩); refine (ostiarykit_OverBytes.full (n - 1) (by omega) (HF7.out.below (pw_below_drewN (Below.refl _ _) _))).mono ?_; rintro e w9 ⟨⟨u, rfl⟩, hg9⟩; have HB9 := Aside0.mk ((pw_below_drewN HS7.out.below _).grown hg9 (by have := HS7.out.below.size; exact this) (fun j e => by have := (HF7.out.base_ j e).1; have := HLO.out; have := HS7.out.lo; omega)); have HG9 := Aside0.mk (blk_grown (blk_drewN HS7.out.lent _) hg9 (fun e => by have := (HF7.out.base_ g e.symm).1; have := HLO.out; omega)); clear hg9
    | (first | refine ⟨trivial, fun _ => by omega, ?_⟩ | refine ⟨trivial, ?_⟩); refine (ostiarykit_KeptBytes.in_ (n - 1) (by omega) g A0 c0 l0 _ HG9.out (Kd.C_below HR.out HB9.out) (by have := HL.out; omega)).mono ?_; rintro e w10 ⟨rfl, hb4⟩; have HB10 := Aside0.mk (HB9.out.trans (hb4.mono HB9.out.size)); clear hb4
    | (first | refine ⟨trivial, fun _ => by omega, ?_⟩ | refine ⟨trivial, ?_⟩); refine (callsIn_wide.2 (ostiarylaw03_awake.calls true _ PB.awake)).mono ?_; rintro e w11 ⟨rfl, hb5⟩; have HB11 := Aside0.mk (HB10.out.trans (hb5.mono HB10.out.size)); clear hb5)
  go_ret
  exact ⟨rfl, HB11.out⟩

theorem ostiarylaw03_OctetGets.walk (a0 : Option Addr) (len0 cap0 : Nat) (z0 : List Int) (a1 a2 : Int) (w : World) (w0 : (a0 = none ∧ len0 = 0 ∧ cap0 = 0 ∧ z0 = []) ∨ ∃ x, a0 = some x ∧ len0 ≤ cap0 ∧ cap0 ≤ maxLen ∧ z0.length = cap0 ∧ (∀ i, i < z0.length → w.cell? (x.add i) = some (.int .u8 (z0.getD i 0))) ∧ ∀ n ∈ z0, (Lit.int .u8 n).wf = true) (y0 : len0 * 1 ≤ 140737488351232) (w1 : (Lit.int .i64 a1).wf = true) (w2 : (Lit.int .i64 a2).wf = true) :
    Calls Try.prog 6 #[.slice a0 len0 cap0, .int .i64 a1, .int .i64 a2] w fun e w' => e = .returned (.bool true) ∧ Below w.heap.size w w' := by
  obtain ⟨l0, rfl, hr0, hm0, hw0, hc0⟩ := ReadsInt.ofRowC w0
  exact callsIn_wide.1 (ostiarylaw03_OctetGets.in_ 5 (by omega) a0 cap0 l0 a1 a2 w (Kd.C_of_reads (d := (0 : Int)) (h1 := fun _ => rfl) hr0) hc0 (bytesB_of hw0) (by have := bounds_i64 w1; omega))
end Go.Proofs.Ytjjbhpbmfpodeaa.X
