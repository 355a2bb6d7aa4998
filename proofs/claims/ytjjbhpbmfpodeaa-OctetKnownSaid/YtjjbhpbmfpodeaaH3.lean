/- The bytes of any number are told as the document says, or just the error: the walk of the statement's code. -/
import Derived.Test.YtjjbhpbmfpodeaaH88F
import Derived.Test.YtjjbhpbmfpodeaaH90F
import Derived.Test.YtjjbhpbmfpodeaaX29
import Derived.Test.YtjjbhpbmfpodeaaX31
import Derived.Test.YtjjbhpbmfpodeaaX34
namespace Go.Proofs.Ytjjbhpbmfpodeaa.PB
open Go.RowKit Go.Proofs.Ytjjbhpbmfpodeaa.X Go.Proofs.YtjjbhpbmfpodeaaW.PrintWords Go.Proofs.YtjjbhpbmfpodeaaW.PrintLast
theorem shr_i64 {x : Int} (n : Int) (hn : 0 ≤ n) (hn2 : n < 64) : shr .i64 x n = x / 2 ^ n.toNat := by
  unfold shr
  rw [Nat.min_eq_left (show n.toNat ≤ IntKind.i64.bits from by show n.toNat ≤ 64; omega)]
theorem refput2 {n : Int} (hi : -9223372036854775808 ≤ n ∧ n ≤ 9223372036854775807) : ∃ p, octet_put_2_byte.f n = some p ∧ ostiaryref03_Put16.f 8 n = some p := by
  unfold octet_put_2_byte.f ostiaryref03_Put16.f ostiaryref03_put.f
  have hw : wrap64 (8 * 2) = 16 := by unfold wrap64; omega
  have s0 : shr .i64 n 16 = n / 65536 := shr_i64 16 (by decide) (by decide)
  by_cases h0 : n < 0
  · rw [if_neg (show ¬ (0 ≤ n ∧ n < 65536) by omega), if_pos h0]
    exact ⟨_, rfl, rfl⟩
  · rw [if_neg h0, hw, if_pos (show (0 : Int) ≤ 16 by decide), s0]
    by_cases h1 : n < 65536
    · rw [if_pos (show 0 ≤ n ∧ n < 65536 by omega)]
      have e : (n / 65536 != 0) = false := by rw [bne_eq_false_iff_eq]; omega
      rw [e]
      have s8 : shr .i64 n 8 = n / 256 := shr_i64 8 (by decide) (by decide)
      have sz : shr .i64 n 0 = n := by rw [shr_i64 0 (by decide) (by decide)]; simp
      refine ⟨_, rfl, ?_⟩
      simp [ostiaryref03_put.j0, ostiaryref03_put.l0, wrap64, sz, s8, octet_put_2_byte.bs]
    · rw [if_neg (show ¬ (0 ≤ n ∧ n < 65536) by omega)]
      have e : (n / 65536 != 0) = true := by rw [bne_iff_ne]; omega
      rw [e]
      exact ⟨_, rfl, rfl⟩
theorem refput4 {n : Int} (hi : -9223372036854775808 ≤ n ∧ n ≤ 9223372036854775807) : ∃ p, octet_put_4_byte.f n = some p ∧ ostiaryref03_Put32.f 8 n = some p := by
  unfold octet_put_4_byte.f ostiaryref03_Put32.f ostiaryref03_put.f
  have hw : wrap64 (8 * 4) = 32 := by unfold wrap64; omega
  have s0 : shr .i64 n 32 = n / 4294967296 := shr_i64 32 (by decide) (by decide)
  by_cases h0 : n < 0
  · rw [if_neg (show ¬ (0 ≤ n ∧ n < 4294967296) by omega), if_pos h0]
    exact ⟨_, rfl, rfl⟩
  · rw [if_neg h0, hw, if_pos (show (0 : Int) ≤ 32 by decide), s0]
    by_cases h1 : n < 4294967296
    · rw [if_pos (show 0 ≤ n ∧ n < 4294967296 by omega)]
      have e : (n / 4294967296 != 0) = false := by rw [bne_eq_false_iff_eq]; omega
      rw [e]
      have s24 : shr .i64 n 24 = n / 16777216 := shr_i64 24 (by decide) (by decide)
      have s16 : shr .i64 n 16 = n / 65536 := shr_i64 16 (by decide) (by decide)
      have s8 : shr .i64 n 8 = n / 256 := shr_i64 8 (by decide) (by decide)
      have sz : shr .i64 n 0 = n := by rw [shr_i64 0 (by decide) (by decide)]; simp
      refine ⟨_, rfl, ?_⟩
      simp [ostiaryref03_put.j0, ostiaryref03_put.l0, wrap64, sz, s24, s16, s8, octet_put_4_byte.bs]
    · rw [if_neg (show ¬ (0 ≤ n ∧ n < 4294967296) by omega)]
      have e : (n / 4294967296 != 0) = true := by rw [bne_iff_ne]; omega
      rw [e]
      exact ⟨_, rfl, rfl⟩
end Go.Proofs.Ytjjbhpbmfpodeaa.PB
namespace Go.Proofs.Ytjjbhpbmfpodeaa.X
open Go.RowKit Go.Proofs.Ytjjbhpbmfpodeaa.PB Go.Proofs.YtjjbhpbmfpodeaaW.PrintWords Go.Proofs.YtjjbhpbmfpodeaaW.PrintLast Go.Proofs.YtjjbhpbmfpodeaaW.PrintMore
set_option linter.unusedVariables false
set_option linter.unusedSimpArgs false
attribute [local go_sem] Oper.semAt_some

set_option maxHeartbeats 4000000 in
set_option maxRecDepth 100000 in
theorem octet_Put16.full (m : Nat) (hm : 1 ≤ m) (a0 : Int) (r1 : List Int) (r2 : Int) (w : World) (h : octet_put_2_byte.f a0 = some (r1, r2)) :
    CallsIn Fence.wide m Try.prog 28 #[.int .i64 a0] w fun e w' => ∃ v0_ : Value, e = .returned (.tuple #[v0_, .int .i64 r2]) ∧ Full w' w.heap.size v0_ r1 ∧ Below w.heap.size w w' := by
  refine callsIn_of_wp Try.func28 rfl trivial ?_ rfl
  simp only [Try.ntmps28, List.size_toArray, List.length_cons, List.length_nil, Nat.reduceAdd, Nat.reduceSub, Array.replicate_succ, Array.replicate_zero, List.push_toArray, List.append_toArray, List.nil_append, List.cons_append]
  gi_wp2_with ((first | refine ⟨trivial, fun _ => by omega, ?_⟩ | refine ⟨trivial, ?_⟩); refine (callsIn_wide.2 (octet_put_2_byte.full a0 r1 r2 _ h)).mono ?_; rintro e w1 ⟨v, rfl, hf, hb⟩; obtain ⟨A, c, rfl, _, _⟩ := hf.reads)
  go_ret2
  exact ⟨_, rfl, hf, hb⟩
set_option maxHeartbeats 4000000 in
set_option maxRecDepth 100000 in
theorem octet_Put32.full (m : Nat) (hm : 1 ≤ m) (a0 : Int) (r1 : List Int) (r2 : Int) (w : World) (h : octet_put_4_byte.f a0 = some (r1, r2)) :
    CallsIn Fence.wide m Try.prog 30 #[.int .i64 a0] w fun e w' => ∃ v0_ : Value, e = .returned (.tuple #[v0_, .int .i64 r2]) ∧ Full w' w.heap.size v0_ r1 ∧ Below w.heap.size w w' := by
  refine callsIn_of_wp Try.func30 rfl trivial ?_ rfl
  simp only [Try.ntmps30, List.size_toArray, List.length_cons, List.length_nil, Nat.reduceAdd, Nat.reduceSub, Array.replicate_succ, Array.replicate_zero, List.push_toArray, List.append_toArray, List.nil_append, List.cons_append]
  gi_wp2_with ((first | refine ⟨trivial, fun _ => by omega, ?_⟩ | refine ⟨trivial, ?_⟩); refine (callsIn_wide.2 (octet_put_4_byte.full a0 r1 r2 _ h)).mono ?_; rintro e w1 ⟨v, rfl, hf, hb⟩; obtain ⟨A, c, rfl, _, _⟩ := hf.reads)
  go_ret2
  exact ⟨_, rfl, hf, hb⟩

/-- Bytes of one's own, in a block from base on and below hi. -/
def Own5 (w : World) (base hi : Nat) (v : Value) (xs : List Int) : Prop := Kd.R (Kd.int .u8) 5 w base (fun k => base ≤ k ∧ k < hi) v xs
theorem Own5.mk_ {w : World} {base : Nat} {v : Value} {xs : List Int} (h : Kd.R (Kd.int .u8) 5 w base (fun _ => True) v xs) : Own5 w base w.heap.size v xs := Kd.R_mono (Kd.R_bound h) (fun k hk => ⟨hk.2.1, hk.2.2.1⟩)
theorem Own5.below {w w' : World} {base hi : Nat} {v : Value} {xs : List Int} (h : Own5 w base hi v xs) (hb : Below w.heap.size w w') : Own5 w' base hi v xs := Kd.R_below h hb
theorem Own5.grown {w w' : World} {base hi : Nat} {v : Value} {xs : List Int} (h : Own5 w base hi v xs) {row : Option Nat} (hg : w.grownBy w' row) (hr : ∀ k, row = some k → k < base ∨ hi ≤ k) : Own5 w' base hi v xs :=
  Kd.R_grown h hg (fun k hk e => by have := hr k e.symm; omega)
theorem Own5.reads {w : World} {base hi : Nat} {A : Option Addr} {m c : Nat} {xs : List Int} (h : Own5 w base hi (.slice A m c) xs) : Kd.C (Kd.int .u8) w A xs.length xs := (Kd.R_reads' h).2.2
theorem Full.readsC {w : World} {base : Nat} {A : Option Addr} {m c : Nat} {xs : List Int} (h : Full w base (.slice A m c) xs) : Kd.C (Kd.int .u8) w A xs.length xs := by
  obtain ⟨A', c', e, _, hc⟩ := h.reads
  cases e; exact hc

set_option maxHeartbeats 8000000 in
set_option maxRecDepth 100000 in
theorem ostiarylaw03_OctetPuts.in_ (n : Nat) (hn : 5 ≤ n) (a : Int) (w : World) (hi : -9223372036854775808 ≤ a ∧ a ≤ 9223372036854775807) :
    CallsIn Fence.wide n Try.prog 3 #[.int .i64 a] w fun e w' => e = .returned (.bool true) ∧ Below w.heap.size w w' := by
  obtain ⟨⟨p1, p2⟩, hp, hp'⟩ := refput2 hi
  obtain ⟨⟨q1, q2⟩, hq, hq'⟩ := refput4 hi
  have HP := Aside0.mk hp
  have HP' := Aside0.mk hp'
  have HQ := Aside0.mk hq
  have HQ' := Aside0.mk hq'
  clear hp hp' hq hq' hi
  refine callsIn_of_wp Try.func3 rfl trivial ?_ rfl
  simp only [Try.ntmps3, List.size_toArray, List.length_cons, List.length_nil, Nat.reduceAdd, Nat.reduceSub, Array.replicate_succ, Array.replicate_zero, List.push_toArray, List.append_toArray, List.nil_append, List.cons_append]
  gi_wp2_with (first
    | (first | refine ⟨trivial, fun _ => by omega, ?_⟩ | refine ⟨trivial, ?_⟩); refine (octet_Put16.full (n - 1) (by omega) a p1 p2 w HP.out).mono ?_; rintro e w1 ⟨v, rfl, hf, hb⟩; obtain ⟨A1, c1, rfl, hc1, _⟩ := hf.reads; have FA1 := Aside0.mk hf; have B1 := Aside0.mk hb; have C1 := Aside0.mk hc1; clear hf hb hc1
    | (first | refine ⟨trivial, fun _ => by omega, ?_⟩ | refine ⟨trivial, ?_⟩); refine (callsIn_wide.2 (ostiaryref03_Put16.calls 8 a p1 p2 w1 HP'.out)).mono ?_; rintro e w2 ⟨v, rfl, hd, hb⟩; obtain ⟨A2, c2, rfl, hc2, _⟩ := Kd.R_reads hd; have OB2 := Aside0.mk (Own5.mk_ hd); have FA2 := Aside0.mk (FA1.out.below hb); have L1 := Aside0.mk (FA1.out.base_); have B2 := Aside0.mk (B1.out.trans (hb.mono B1.out.size)); have C2 := Aside0.mk hc2; have S2 := Aside0.mk hb.size; clear hd hb hc2 FA1
    | (first | refine ⟨trivial, fun _ => by omega, ?_⟩ | refine ⟨trivial, ?_⟩); refine (octet_Put32.full (n - 1) (by omega) a q1 q2 w2 HQ.out).mono ?_; rintro e w3 ⟨v, rfl, hf, hb⟩; obtain ⟨A3, c3, rfl, hc3, _⟩ := hf.reads; have FC3 := Aside0.mk hf; have FA3 := Aside0.mk (FA2.out.below hb); have OB3 := Aside0.mk (OB2.out.below hb); have B3 := Aside0.mk (B2.out.trans (hb.mono B2.out.size)); have C3 := Aside0.mk hc3; have S3 := Aside0.mk hb.size; clear hf hb hc3 FA2 OB2
    | (first | refine ⟨trivial, fun _ => by omega, ?_⟩ | refine ⟨trivial, ?_⟩); refine (callsIn_wide.2 (ostiaryref03_Put32.calls 8 a q1 q2 w3 HQ'.out)).mono ?_; rintro e w4 ⟨v, rfl, hd, hb⟩; obtain ⟨A4, c4, rfl, hc4, _⟩ := Kd.R_reads hd; have OD4 := Aside0.mk (Own5.mk_ hd); have L3 := Aside0.mk (FC3.out.base_); have FC4 := Aside0.mk (FC3.out.below hb); have FA4 := Aside0.mk (FA3.out.below hb); have OB4 := Aside0.mk (OB3.out.below hb); have B4 := Aside0.mk (B3.out.trans (hb.mono B3.out.size)); have C4 := Aside0.mk hc4; have S4 := Aside0.mk hb.size; clear hd hb hc4 FA3 OB3 FC3
    | (first | refine ⟨trivial, fun _ => by omega, ?_⟩ | refine ⟨trivial, ?_⟩); refine (callsIn_wide.2 (ostiarykit_SameBytes.calls A1 c1 p1 A2 c2 p1 true w4 FA4.out.readsC C1.out OB4.out.reads C2.out (same_self p1))).mono ?_; rintro e w5 ⟨rfl, nd, hw5⟩; have HW5 : Aside0 (Below w4.heap.size w4 w5) := ⟨by rw [hw5]; exact pw_below_drewN (Below.refl _ _) _⟩; clear hw5
    | (first | refine ⟨trivial, fun _ => by omega, ?_⟩ | refine ⟨trivial, ?_⟩); refine (callsIn_wide.2 (ostiarykit_SameBytes.calls A3 c3 q1 A4 c4 q1 true w5 (FC4.out.below HW5.out).readsC C3.out (OD4.out.below HW5.out).reads C4.out (same_self q1))).mono ?_; rintro e w6 ⟨rfl, nd, hw6⟩; have HW6 : Aside0 (Below w4.heap.size w4 w6) := ⟨HW5.out.trans ((by rw [hw6]; exact pw_below_drewN (Below.refl _ _) _ : Below w5.heap.size w5 w6).mono HW5.out.size)⟩; clear hw6; have FA6 := Aside0.mk (FA4.out.below HW6.out); have FC6 := Aside0.mk (FC4.out.below HW6.out); have OB6 := Aside0.mk (OB4.out.below HW6.out); have OD6 := Aside0.mk (OD4.out.below HW6.out); have B6 := Aside0.mk (B4.out.trans (HW6.out.mono B4.out.size)); clear FA4 FC4 OB4 OD4 HW5 HW6
    | (first | refine ⟨trivial, fun _ => by omega, ?_⟩ | refine ⟨trivial, ?_⟩); refine (ostiarykit_OverBytes.full (n - 1) (by omega) FA6.out).mono ?_; rintro e w7 ⟨⟨u, rfl⟩, hg7⟩; have FC7 := Aside0.mk (FC6.out.grown hg7 (by rcases hko : (Value.slice A3 q1.length c3).ownBlock with _ | k; exact .inl rfl; exact .inr (fun e => by have := L3.out k hko; have := L1.out k e.symm; have := S2.out; omega))); have OB7 := Aside0.mk (OB6.out.grown hg7 (fun k hk => .inl (L1.out k hk).2)); have OD7 := Aside0.mk (OD6.out.grown hg7 (fun k hk => .inl (by have := (L1.out k hk).2; have := S2.out; have := S3.out; omega))); have B7 := Aside0.mk (B6.out.grown hg7 B6.out.size (fun k hk => (L1.out k hk).1)); clear hg7 FA6 FC6 OB6 OD6 B6
    | (first | refine ⟨trivial, fun _ => by omega, ?_⟩ | refine ⟨trivial, ?_⟩); refine (ostiarykit_OverBytes.full (n - 1) (by omega) FC7.out).mono ?_; rintro e w8 ⟨⟨u, rfl⟩, hg8⟩; have OB8 := Aside0.mk (OB7.out.grown hg8 (fun k hk => .inr (L3.out k hk).1)); have OD8 := Aside0.mk (OD7.out.grown hg8 (fun k hk => .inl (L3.out k hk).2)); have B8 := Aside0.mk (B7.out.grown hg8 B7.out.size (fun k hk => by have := (L3.out k hk).1; have := B1.out.size; have := S2.out; omega)); clear hg8 FC7 OB7 OD7 B7
    | (first | refine ⟨trivial, fun _ => by omega, ?_⟩ | refine ⟨trivial, ?_⟩); refine (octet_Put16.full (n - 1) (by omega) a p1 p2 w8 HP.out).mono ?_; rintro e w9 ⟨v, rfl, hf, hb⟩; obtain ⟨A9, c9, rfl, hc9, _⟩ := hf.reads; have FX9 := Aside0.mk hf; have OB9 := Aside0.mk (OB8.out.below hb); have OD9 := Aside0.mk (OD8.out.below hb); have B9 := Aside0.mk (B8.out.trans (hb.mono B8.out.size)); have C9 := Aside0.mk hc9; clear hf hb hc9 OB8 OD8
    | (first | refine ⟨trivial, fun _ => by omega, ?_⟩ | refine ⟨trivial, ?_⟩); refine (octet_Put32.full (n - 1) (by omega) a q1 q2 w9 HQ.out).mono ?_; rintro e w10 ⟨v, rfl, hf, hb⟩; obtain ⟨A10, c10, rfl, hc10, _⟩ := hf.reads; have FY10 := Aside0.mk hf; have FX10 := Aside0.mk (FX9.out.below hb); have OB10 := Aside0.mk (OB9.out.below hb); have OD10 := Aside0.mk (OD9.out.below hb); have B10 := Aside0.mk (B9.out.trans (hb.mono B9.out.size)); have C10 := Aside0.mk hc10; clear hf hb hc10 OB9 OD9 FX9
    | (first | refine ⟨trivial, fun _ => by omega, ?_⟩ | refine ⟨trivial, ?_⟩); refine (callsIn_wide.2 (ostiarykit_SameBytes.calls A9 c9 p1 A2 c2 p1 true w10 FX10.out.readsC C9.out OB10.out.reads C2.out (same_self p1))).mono ?_; rintro e w11 ⟨rfl, nd, hw11⟩; have HW11 : Aside0 (Below w10.heap.size w10 w11) := ⟨by rw [hw11]; exact pw_below_drewN (Below.refl _ _) _⟩; clear hw11
    | (first | refine ⟨trivial, fun _ => by omega, ?_⟩ | refine ⟨trivial, ?_⟩); refine (callsIn_wide.2 (ostiarykit_SameBytes.calls A10 c10 q1 A4 c4 q1 true w11 (FY10.out.below HW11.out).readsC C10.out (OD10.out.below HW11.out).reads C4.out (same_self q1))).mono ?_; rintro e w12 ⟨rfl, nd, hw12⟩; have HW12 : Aside0 (Below w10.heap.size w10 w12) := ⟨HW11.out.trans ((by rw [hw12]; exact pw_below_drewN (Below.refl _ _) _ : Below w11.heap.size w11 w12).mono HW11.out.size)⟩; clear hw12; have B12 := Aside0.mk (B10.out.trans (HW12.out.mono B10.out.size))
    | (first | refine ⟨trivial, fun _ => by omega, ?_⟩ | refine ⟨trivial, ?_⟩); refine (callsIn_wide.2 (ostiarylaw03_awake.calls true _ PB.awake)).mono ?_; rintro e w13 ⟨rfl, hb5⟩; have B13 := Aside0.mk (B12.out.trans (hb5.mono B12.out.size)); clear hb5)
  go_ret
  exact ⟨rfl, B13.out⟩

theorem ostiarylaw03_OctetPuts.walk (a0 : Int) (w : World) (w0 : (Lit.int .i64 a0).wf = true) :
    Calls Try.prog 3 #[.int .i64 a0] w fun e w' => e = .returned (.bool true) ∧ Below w.heap.size w w' :=
  callsIn_wide.1 (ostiarylaw03_OctetPuts.in_ 5 (by omega) a0 w (by have := bounds_i64 w0; omega))
end Go.Proofs.Ytjjbhpbmfpodeaa.X
