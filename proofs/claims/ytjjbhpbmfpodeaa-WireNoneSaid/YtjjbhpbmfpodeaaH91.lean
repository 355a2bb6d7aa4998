/- octet.get at two or four bytes: the number, ErrRange or ErrBytes as the code tells them; octet.at (a deferred recover): the byte, or ErrBytes. -/
import Derived.Test.YtjjbhpbmfpodeaaX0
import Derived.Recover
import Derived.Laws.Panics
namespace Go.Proofs.Ytjjbhpbmfpodeaa.X
open Go.RowKit Go.Proofs.YtjjbhpbmfpodeaaW.PrintWords Go.Proofs.YtjjbhpbmfpodeaaW.PrintLast Go.Proofs.YtjjbhpbmfpodeaaW.PrintMore
set_option linter.unusedVariables false
set_option linter.unusedSimpArgs false
theorem rtb : Try.prog.rt.boundsError = 8 := by kernel_rfl
theorem run_boundsPanicN {α : Type} {P : Program} {w : World} (k : IntKind) (x y : Int) (code : BoundsCode) :
    ∃ s n, (boundsPanic k x y code : Sem α).run P w = .halt (.panic (boundsValue P (IntKind.i64.wrap x) y s code.toNat)) (w.drewN n) := by
  unfold boundsPanic boundsValue
  split
  · simp [runtimePanic, goPanic, go_sem]
    exact ⟨1, rfl⟩
  · simp [runtimePanic, goPanic, go_sem]
    exact ⟨0, rfl⟩
theorem ta_bounds (v : Value) (w : World) : (Instr.typeAssert (.iface 8 v) 20 152 true).run Try.prog w = .ok (.tuple #[.iface 8 v, .bool true]) w := by kernel_rfl
theorem ta_nil (w : World) : (Instr.typeAssert .nilIface 20 152 true).run Try.prog w = .ok (.tuple #[.nilIface, .bool false]) w := by kernel_rfl

theorem at1_panicking (p : Addr) (x : Int) (pv : Value) (older : List PanicEntry) (w : World) (hc : w.cell? p = some (.int .i64 x)) (hz : w.frozen? p = false) :
    CallsD Try.prog 121 #[.pointer (some p)] (.panicking ({ v := .iface 8 pv, recovered := false } :: older)) w fun e u' w' =>
      e = .returned (.tuple #[]) ∧ u' = .panicking ({ v := .iface 8 pv, recovered := true } :: older) ∧ w' = w.setCell p (.int .i64 4) := by
  refine callsD_of_wpS Try.func121 rfl fun c₀ cs hu => ?_
  have hta := ta_bounds pv
  apply wpS_seq
  apply wpS_region
  simp [wpOpsS, go_sem, recoverD, hu, Try.ntmps121, Exit.thenS]
  refine wpS_of_wp ?_
  simp only [Array.replicate_succ, Array.replicate_zero, List.push_toArray, List.append_toArray, List.nil_append, List.cons_append, List.setIfInBounds_toArray, List.set_cons_zero, List.set_cons_succ]
  go_wp2
  simp [bodyPostS, results, Try.results121]

theorem at1_idle (p : Addr) (w : World) :
    CallsD Try.prog 121 #[.pointer (some p)] .returning w fun e u' w' => e = .returned (.tuple #[]) ∧ u' = .returning ∧ w' = w := by
  refine callsD_of_wpS Try.func121 rfl fun c₀ cs hu => ?_
  have hta := ta_nil
  apply wpS_seq
  apply wpS_region
  simp [wpOpsS, go_sem, recoverD, hu, Try.ntmps121, Exit.thenS]
  refine wpS_of_wp ?_
  simp only [Array.replicate_succ, Array.replicate_zero, List.push_toArray, List.append_toArray, List.nil_append, List.cons_append, List.setIfInBounds_toArray, List.set_cons_zero, List.set_cons_succ]
  go_wp2
  cases c₀
  simp_all [bodyPostS, results, Try.results121]

set_option maxRecDepth 100000 in
theorem at_in (A0 : Option Addr) (c0 : Nat) (l0 : List Int) (i : Int) (w : World) (hr0 : Kd.C (Kd.int .u8) w A0 l0.length l0) (h0 : 0 ≤ i) (h1 : i < l0.length) :
    Calls Try.prog 112 #[.slice A0 l0.length c0, .int .i64 i] w fun e w' => e = .returned (.tuple #[.int .u8 (rd l0 i), .int .i64 0]) ∧ Below w.heap.size w w' := by
  obtain ⟨ad, rfl, hcell⟩ := Kd.at_int hr0 i h0 h1
  have hcell2 := pw_cell_below (below_alloc (Below.refl _ _) (.cells #[.int .i64 0] 23)) hcell
  clear hr0
  have hmf : ∀ (fn : Fn) (first cap : Array Value) (w : World), (Instr.makeFunc fn first cap).run Try.prog w = .ok (.func fn first cap) w := fun _ _ _ _ => rfl
  go_enter_defers Try.func112, Try.ntmps112
  go_wp2
  refine leaves_cons (f := 121) (args := #[.pointer (some ⟨w.heap.size, 0, none⟩)]) (by simp) (by simp [go_sem]) ?_
  refine (at1_idle ⟨w.heap.size, 0, none⟩ _).mono ?_
  rintro e u' w'' ⟨rfl, rfl, rfl⟩
  simp [Leaves, settle, results, Try.results112, go_sem]
  exact below_alloc (Below.refl _ _) _

set_option maxRecDepth 100000 in
theorem at_out (A0 : Option Addr) (c0 : Nat) (l0 : List Int) (i : Int) (w : World) (hr0 : Kd.C (Kd.int .u8) w A0 l0.length l0) (h1 : i < 0 ∨ (l0.length : Int) ≤ i) :
    Calls Try.prog 112 #[.slice A0 l0.length c0, .int .i64 i] w fun e w' => e = .returned (.tuple #[.int .u8 0, .int .i64 4]) ∧ Below w.heap.size w w' := by
  have hmf : ∀ (fn : Fn) (first cap : Array Value) (w : World), (Instr.makeFunc fn first cap).run Try.prog w = .ok (.func fn first cap) w := fun _ _ _ _ => rfl
  have hidx : ∃ s n, (Instr.indexAt 22 (.slice A0 l0.length c0) (.int .i64 i)).run Try.prog (w.alloc (.cells #[.int .i64 0] 23)) = .halt (.panic (boundsValue Try.prog (IntKind.i64.wrap i) l0.length s 0)) ((w.alloc (.cells #[.int .i64 0] 23)).drewN n) := by
    cases A0 with
    | some a =>
      rw [run_indexAt_slice (h := Try.underlying22), if_neg (by omega)]
      exact run_boundsPanicN .i64 i l0.length .index
    | none =>
      have hl : l0.length = 0 := by
        rcases Nat.eq_zero_or_pos l0.length with h | h
        · exact h
        · obtain ⟨ad, e, _⟩ := hr0.2.2 h
          cases e
      rw [hl]
      have e : (Instr.indexAt 22 (.slice none 0 c0) (.int .i64 i)).run Try.prog (w.alloc (.cells #[.int .i64 0] 23)) = (boundsPanic .i64 i 0 .index).run Try.prog (w.alloc (.cells #[.int .i64 0] 23)) := by
        simp [Instr.indexAt, run_underlying Try.underlying22, asIntOf]
      rw [e]
      exact run_boundsPanicN .i64 i 0 .index
  obtain ⟨s, n, hrun⟩ := hidx
  unfold boundsValue at hrun
  rw [rtb] at hrun
  clear hr0 h1
  go_enter_defers Try.func112, Try.ntmps112
  go_wp2
  refine leaves_cons (f := 121) (args := #[.pointer (some ⟨w.heap.size, 0, none⟩)]) (by simp) (by simp [go_sem]) ?_
  refine (at1_panicking ⟨w.heap.size, 0, none⟩ 0 _ [] _ ?_ ?_).mono ?_
  · simp [go_sem]
  · simp [go_sem]
  rintro e u' w'' ⟨rfl, rfl, rfl⟩
  simp [Leaves, settle, results, Try.results112, go_sem]
  exact below_set (pw_below_drewN (below_alloc (Below.refl _ _) _) _) (Nat.le_refl _)

/-- The number that bytes tell, the highest first. -/
def beVal (l : List Int) : Int := l.foldl (fun n c => 256 * n + c) 0
theorem beVal_snoc (l : List Int) (c : Int) : beVal (l ++ [c]) = 256 * beVal l + c := by simp [beVal]
def bytesB (l : List Int) : Bool := l.all fun x => decide (0 ≤ x ∧ x ≤ 255)
theorem bytesB_at {l : List Int} (h : bytesB l = true) (i : Nat) : 0 ≤ l.getD i 0 ∧ l.getD i 0 ≤ 255 := by
  rw [List.getD_eq_getElem?_getD]
  rcases Nat.lt_or_ge i l.length with hi | hi
  · rw [List.getElem?_eq_getElem hi]
    simpa [bytesB] using (List.all_eq_true.1 h) l[i] (List.getElem_mem hi)
  · rw [List.getElem?_eq_none hi]
    simp
/-- octet.get at two or four bytes. -/
def octet_get.f (l0 : List Int) (a1 : Int) (a2 : Int) : Option (Int × Int × Int × Int) :=
  if bytesB l0 = true ∧ (a2 = 2 ∨ a2 = 4) ∧ l0.length ≤ 140737488355328 then
    if a1 < 0 ∨ (l0.length : Int) < a1 then some (0, 0, 5, 0)
    else if (l0.length : Int) < a1 + a2 then some (0, 0, 4, l0.length)
    else some (beVal ((l0.drop a1.toNat).take a2.toNat), a1 + a2, 0, 0)
  else none
theorem beVal_bound {l : List Int} (h : bytesB l = true) : 0 ≤ beVal l ∧ beVal l < 256 ^ l.length := by
  suffices H : ∀ n : Nat, ∀ l : List Int, l.length = n → bytesB l = true → 0 ≤ beVal l ∧ beVal l < 256 ^ n by exact H _ l rfl h
  intro n
  induction n with
  | zero => intro l hl _; obtain rfl := List.eq_nil_of_length_eq_zero hl; simp [beVal]
  | succ n ih =>
    intro l hl h
    have hne : l ≠ [] := by intro e; subst e; simp at hl
    obtain ⟨l', c, rfl⟩ : ∃ l' c, l = l' ++ [c] := ⟨l.dropLast, l.getLast hne, (List.dropLast_concat_getLast hne).symm⟩
    have h' : bytesB l' = true ∧ 0 ≤ c ∧ c ≤ 255 := by simpa [bytesB] using h
    obtain ⟨i1, i2⟩ := ih l' (by simpa using hl) h'.1
    rw [beVal_snoc, Int.pow_succ]
    omega

set_option maxHeartbeats 8000000 in
set_option maxRecDepth 100000 in
theorem octet_get.calls (A0 : Option Addr) (c0 : Nat) (l0 : List Int) (a1 : Int) (a2 : Int) (r1 : Int) (r2 : Int) (r3 : Int) (r4 : Int) (w : World) (hr0 : Kd.C (Kd.int .u8) w A0 l0.length l0) (hc0 : l0.length ≤ c0) (h : octet_get.f l0 a1 a2 = some (r1, r2, r3, r4)) :
    Calls Try.prog 91 #[.slice A0 l0.length c0, .int .i64 a1, .int .i64 a2] w fun e w' => e = .returned (.tuple #[.int .i64 r1, .int .i64 r2, .agg #[.int .i64 r3, .int .i64 r4]]) ∧ Below w.heap.size w w' := by
  unfold octet_get.f at h
  by_cases c1 : bytesB l0 = true ∧ (a2 = 2 ∨ a2 = 4) ∧ l0.length ≤ 140737488355328
  case neg => rw [if_neg c1] at h; cases h
  rw [if_pos c1] at h
  obtain ⟨hby, h24, hlen⟩ := c1
  have HBY := Aside0.mk hby
  have HR0 := Aside0.mk hr0
  have HC0 := Aside0.mk hc0
  clear hby hr0 hc0
  by_cases c2 : a1 < 0 ∨ (l0.length : Int) < a1
  · rw [if_pos c2] at h
    simp only [Option.some.injEq, Prod.mk.injEq] at h
    obtain ⟨rfl, rfl, rfl, rfl⟩ := h
    by_cases c3 : a1 < 0
    · have b0 : decide (a1 < 0) = true := decide_eq_true c3
      clear c2 c3
      go_enter Try.func91, Try.ntmps91
      go_wp2
      refine bodyPost_ret (v := .tuple #[.int .i64 0, .int .i64 0, .agg #[.int .i64 5, .int .i64 0]]) (by simp [results, Try.results91, go_sem]) rfl ⟨rfl, ?_⟩
      exact below_alloc (Below.refl _ _) _
    · have b0 : decide (a1 < 0) = false := decide_eq_false c3
      have b1 : (l0.length : Int) < a1 := by omega
      clear c2 c3
      go_enter Try.func91, Try.ntmps91
      go_wp2
      refine bodyPost_ret (v := .tuple #[.int .i64 0, .int .i64 0, .agg #[.int .i64 5, .int .i64 0]]) (by simp [results, Try.results91, go_sem]) rfl ⟨rfl, ?_⟩
      exact below_alloc (Below.refl _ _) _
  · rw [if_neg c2] at h
    have b0 : decide (a1 < 0) = false := decide_eq_false (by omega)
    have b1 : a1 ≤ (l0.length : Int) := by omega
    have b2 : 0 ≤ a1 := by omega
    obtain ⟨n, rfl⟩ := Int.eq_ofNat_of_zero_le b2
    clear c2
    have h24' : 2 ≤ a2 ∧ a2 ≤ 4 := by omega
    obtain ⟨m, rfl⟩ := Int.eq_ofNat_of_zero_le (show 0 ≤ a2 by omega)
    have b3 : decide ((l0.length : Int) < (n : Int)) = false := decide_eq_false (by omega)
    have b4 : decide (l0.length < n) = false := decide_eq_false (by omega)
    have HH := Aside0.mk h
    have H24 := Aside0.mk h24
    clear h h24
    go_enter Try.func91, Try.ntmps91
    go_wp2
    go_loopg [9, 10, 11, 12, 23] m (fun kq v9 v10 v11 v12 v23 w' => ∃ i : Nat, v23 = .int .i64 i ∧ i ≤ m ∧ n + i ≤ l0.length ∧ Aside0 (i + kq = m) ∧ Aside0 (v9 = .int .i64 (beVal ((l0.drop n).take i))) ∧ Aside0 (w'.heap[w.heap.size]? = some (.cells #[.int .i64 0, .int .i64 0] 31 (0, 0))) ∧ Aside0 (Below w.heap.size w w'))
    case atStart => exact ⟨0, rfl, by omega, by omega, ⟨by omega⟩, ⟨rfl⟩, ⟨heap_alloc_new w _⟩, ⟨below_alloc (Below.refl _ _) _⟩⟩
    case round =>
      obtain ⟨i, rfl, hi, hin, HI, HV, HBLK, HB⟩ := hrel
      have hcz0 : wr.cell? ⟨w.heap.size, 0, none⟩ = some (.int .i64 0) := (blk_cell HBLK.out 0).trans rfl
      have hcz1 : wr.cell? ⟨w.heap.size, 1, none⟩ = some (.int .i64 0) := (blk_cell HBLK.out 1).trans rfl
      have hfz0 := blk_frozen HBLK.out 0
      have hfz1 := blk_frozen HBLK.out 1
      have HBLT := Aside0.mk (blk_lt HBLK.out)
      by_cases c4 : i < m
      · have htl : ((l0.drop n).take i).length = i := by simp; omega
        have hbv := beVal_bound (l := (l0.drop n).take i) (by
          have := HBY.out
          simp only [bytesB, List.all_eq_true] at this ⊢
          intro x hx
          exact this x (List.mem_of_mem_drop (List.mem_of_mem_take hx)))
        rw [htl] at hbv
        have hbv2 : (256 : Int) ^ i ≤ 256 ^ 3 := by
          have : i ≤ 3 := by omega
          exact_mod_cast Nat.pow_le_pow_right (by omega) this
        obtain ⟨bv, hbvd⟩ : ∃ bv, bv = beVal ((l0.drop n).take i) := ⟨_, rfl⟩
        rw [← hbvd] at hbv HV
        have hv1 : 0 ≤ bv := hbv.1
        have hv2 : bv ≤ 16777215 := by have := hbv.2; omega
        have HBVD := Aside0.mk hbvd
        clear hbv hbv2 hbvd htl
        obtain rfl := HV.out
        clear HV
        by_cases c5 : n + i < l0.length
        · have hrd : 0 ≤ rd l0 ((n : Int) + (i : Int)) ∧ rd l0 ((n : Int) + (i : Int)) ≤ 255 := bytesB_at HBY.out _
          obtain ⟨hr1, hr2⟩ := hrd
          have hval : bits BinOp.or IntKind.i64 (bv * 256) (rd l0 ((n : Int) + (i : Int))) = beVal ((l0.drop n).take (i + 1)) := by
            rw [bits_join .i64 63 (by decide) (fun n h1 h2 => by rw [IntKind.wrap_i64]; omega) 8 (bv * 256) _ (by omega) (by omega) (by omega) hr1 (by omega) (by omega)]
            rw [List.take_succ_eq_append_getElem (by simp; omega), beVal_snoc, ← HBVD.out]
            have : rd l0 ((n : Int) + (i : Int)) = (l0.drop n)[i]'(by simp; omega) := by
              unfold rd
              rw [show ((n : Int) + (i : Int)).toNat = n + i by omega, List.getD_eq_getElem?_getD, List.getElem?_eq_getElem c5, List.getElem_drop]
              rfl
            rw [this]; omega
          have HVAL := Aside0.mk hval
          clear hval
          go_wp2_with (go_at_call 112; refine (at_in _ _ l0 _ _ (Kd.C_below HR0.out HB.out) (by omega) (by omega)).mono ?_; rintro e w2 ⟨rfl, hb⟩)
          go_roundg (gk - 1)
          case measure => have := HI.out; omega
          case rel => exact ⟨i + 1, by go_num, by omega, by omega, ⟨by have := HI.out; omega⟩, ⟨by rw [HVAL.out]⟩, ⟨blk_below HBLK.out hb⟩, ⟨below_step HB.out hb⟩⟩
        · have hh := HH.out
          rw [if_pos (by omega)] at hh
          simp only [Option.some.injEq, Prod.mk.injEq] at hh
          obtain ⟨rfl, rfl, rfl, rfl⟩ := hh
          go_wp2_with (go_at_call 112; refine (at_out _ _ l0 _ _ (Kd.C_below HR0.out HB.out) (by omega)).mono ?_; rintro e w2 ⟨rfl, hb⟩; have hc0' := (hb.cell (p := ⟨w.heap.size, 0, none⟩) HBLT.out).trans hcz0; have hc1' := (hb.cell (p := ⟨w.heap.size, 1, none⟩) HBLT.out).trans hcz1; have hf0' := (hb.frozen (p := ⟨w.heap.size, 0, none⟩) HBLT.out).trans hfz0; have hf1' := (hb.frozen (p := ⟨w.heap.size, 1, none⟩) HBLT.out).trans hfz1)
          have BK := Aside0.mk (blk_below HBLK.out hb)
          have HB2 := Aside0.mk (below_step HB.out hb)
          refine bodyPost_ret (results_list (rs := [.tmp 6, .tmp 7, .cell 8 31]) rfl (by simp) (.tmp (.tmp (.cell w.heap.size 31 #[.int .i64 4, .int .i64 l0.length] (0, 0) _ rfl (by refine blk_put (cs := #[.int .i64 4, .int .i64 0]) ?_ 1 _ rfl; refine blk_put (cs := #[.int .i64 0, .int .i64 0]) ?_ 0 _ rfl; exact BK.out) Try.underlying31 rfl (by kernel_rfl) .nil)))) rfl ?_
          exact ⟨rfl, below_set (below_set HB2.out (Nat.le_refl _)) (Nat.le_refl _)⟩
      · have hh := HH.out
        obtain rfl : i = m := by omega
        rw [if_neg (by omega)] at hh
        simp only [Option.some.injEq, Prod.mk.injEq] at hh
        obtain ⟨e1, rfl, rfl, rfl⟩ := hh
        obtain rfl := HV.out
        rw [show (↑i : Int).toNat = i from rfl, show (↑n : Int).toNat = n from rfl] at e1
        rw [e1]
        clear e1 HV HH
        go_wp2
        refine bodyPost_ret (results_list (rs := [.tmp 6, .tmp 7, .cell 8 31]) rfl (by simp) (.tmp (.tmp (.cell w.heap.size 31 #[.int .i64 0, .int .i64 0] (0, 0) _ rfl (by refine blk_put (cs := #[.int .i64 0, .int .i64 0]) ?_ 1 _ rfl; refine blk_put (cs := #[.int .i64 0, .int .i64 0]) ?_ 0 _ rfl; exact HBLK.out) Try.underlying31 rfl (by kernel_rfl) .nil)))) rfl ?_
        exact ⟨rfl, below_set (below_set HB.out (Nat.le_refl _)) (Nat.le_refl _)⟩
end Go.Proofs.Ytjjbhpbmfpodeaa.X
