/- octet.put at an array of 2 bytes: the bytes of a number, the highest first, or ErrRange; for every int. -/
import Derived.Test.YtjjbhpbmfpodeaaX0
namespace Go.Proofs.Ytjjbhpbmfpodeaa.X
open Go.RowKit Go.Proofs.YtjjbhpbmfpodeaaW.PrintWords Go.Proofs.YtjjbhpbmfpodeaaW.PrintLast Go.Proofs.YtjjbhpbmfpodeaaW.PrintMore
set_option linter.unusedVariables false
set_option linter.unusedSimpArgs false
/-- The first k bytes of a number of 2 bytes, the highest first. -/
def octet_put_2_byte.bs (a0 : Int) : Nat → List Int
  | 0 => []
  | k + 1 => octet_put_2_byte.bs a0 k ++ [(a0 / 2 ^ (8 * (1 - k))) % 256]
theorem octet_put_2_byte.bs_length (a0 : Int) : ∀ k, (octet_put_2_byte.bs a0 k).length = k
  | 0 => rfl
  | k + 1 => by simp [octet_put_2_byte.bs, octet_put_2_byte.bs_length a0 k]
def octet_put_2_byte.f (a0 : Int) : Option (List Int × Int) := if 0 ≤ a0 ∧ a0 < 65536 then some (octet_put_2_byte.bs a0 2, 0) else some ([], 5)
set_option maxHeartbeats 8000000 in
set_option maxRecDepth 100000 in
theorem octet_put_2_byte.calls (a0 : Int) (r1 : List Int) (r2 : Int) (w : World) (h : octet_put_2_byte.f a0 = some (r1, r2)) :
    Calls Try.prog 88 #[.int .i64 a0] w fun e w' => ∃ v0_ : Value, e = .returned (.tuple #[v0_, .int .i64 r2]) ∧ Kd.R (Kd.int .u8) 5 w' w.heap.size (fun _ => True) v0_ r1 ∧ Below w.heap.size w w' := by
  have HB := Aside0.mk (Below.refl w.heap.size w)
  unfold octet_put_2_byte.f at h
  by_cases c0 : a0 < 0
  · rw [if_neg (by omega)] at h
    simp only [Option.some.injEq, Prod.mk.injEq] at h
    obtain ⟨rfl, rfl⟩ := h
    have c4b0 : decide (a0 < 0) = true := decide_eq_true c0
    clear c0
    go_enter Try.func88, Try.ntmps88
    go_wp2
    go_ret2
    exact ⟨_, rfl, Kd.R_nil _ _ _ _ _, below_alloc HB.out _⟩
  · have c4b0 : decide (a0 < 0) = false := decide_eq_false c0
    by_cases c1 : a0 < 65536
    · rw [if_pos (by omega)] at h
      simp only [Option.some.injEq, Prod.mk.injEq] at h
      obtain ⟨rfl, rfl⟩ := h
      have c5 : (a0 / 65536 != 0) = false := by
        rw [bne_eq_false_iff_eq]; omega
      clear c0 c1
      go_enter Try.func88, Try.ntmps88
      go_wp2
      go_loopg [5, 19] 2 (fun kq v5 v19 w' => ∃ i : Nat, v19 = .int .i64 i ∧ i ≤ 2 ∧ Aside0 (i + kq = 2) ∧ Aside0 (Kd.R (Kd.int .u8) 5 w' (w.heap.size + 1) (fun _ => True) v5 (octet_put_2_byte.bs a0 i)) ∧ Aside0 (Below (w.heap.size + 1) (w.alloc (.cells #[.int .u8 0, .int .u8 0] 107)) w') ∧ Aside0 (w.heap.size + 1 ≤ w'.heap.size))
      case atStart => exact ⟨0, rfl, by omega, ⟨rfl⟩, ⟨Kd.R_nil _ _ _ _ _⟩, ⟨Below.refl _ _⟩, ⟨by simp⟩⟩
      case round =>
        obtain ⟨i, rfl, hi, HI, HR, HBB, HS⟩ := hrel
        have hblk : wr.heap[w.heap.size]? = some (.cells #[.int .u8 0, .int .u8 0] 107 (0, 0)) := (HBB.out.block _ (by omega)).trans (heap_alloc_new w _)
        have hc0 : wr.cell? ⟨w.heap.size, 0, none⟩ = some (.int .u8 0) := (blk_cell hblk 0).trans rfl
        have hc1 : wr.cell? ⟨w.heap.size, 1, none⟩ = some (.int .u8 0) := (blk_cell hblk 1).trans rfl
        have HBLK := Aside0.mk hblk
        clear hblk
        by_cases c7 : i < 2
        · rcases (show i = 0 ∨ i = 1 from by omega) with rfl | rfl
          · have hbs : octet_put_2_byte.bs a0 0 ++ [(a0 / 256) % 256] = octet_put_2_byte.bs a0 1 := by simp [octet_put_2_byte.bs]
            have HBS := Aside0.mk hbs
            clear hbs
            go_wp2_with (first | ((with_reducible refine gate_builtin (b := .append) (xs := #[.tmp 22, .tmp 32]) rfl ?_); at_builtin; refine Kd.R_append (Kd.int .u8) (w0 := w.alloc (.cells #[.int .u8 0, .int .u8 0] 107)) (w.heap.size + 1) rfl (.tmp 22) (.tmp 32) 22 5 (.int .u8 0) 1 rfl Try.underlying22 info5 rfl (by decide) (by omega) u5 (octet_put_2_byte.bs a0 0) ((a0 / 256) % 256) [.int .u8 ((a0 / 256) % 256)] (fun _ => True) (fun _ => False) rfl rfl ?aP (fun _ hk => hk.elim) ?aF ?aO ?aB ?aS ?aL ?_; (case aP => exact rfl); (case aB => exact HBB.out); (case aF => exact (fun _ _ => trivial)); (case aO => exact HR.out); (case aS => exact HS.out); (case aL => rw [octet_put_2_byte.bs_length]; omega); intro v102 w14 ho hb hg hat; rw [HBS.out] at ho; have n0_ := Aside0.mk (hb); have n1_ := Aside0.mk (ho); have n2_ := Aside0.mk (hg.size); clear HBB HR; have HBB := n0_; have HR := n1_; have HS2 := n2_; clear n0_ n1_ n2_; clear ho hb hg hat))
            go_roundg (gk - 1)
            case measure => have := HI.out; omega
            case rel => exact ⟨1, rfl, by omega, ⟨by have := HI.out; omega⟩, HR, HBB, ⟨Nat.le_trans HS.out HS2.out⟩⟩
          · have hbs : octet_put_2_byte.bs a0 1 ++ [a0 % 256] = octet_put_2_byte.bs a0 2 := by simp [octet_put_2_byte.bs]
            have HBS := Aside0.mk hbs
            clear hbs
            go_wp2_with (first | ((with_reducible refine gate_builtin (b := .append) (xs := #[.tmp 22, .tmp 32]) rfl ?_); at_builtin; refine Kd.R_append (Kd.int .u8) (w0 := w.alloc (.cells #[.int .u8 0, .int .u8 0] 107)) (w.heap.size + 1) rfl (.tmp 22) (.tmp 32) 22 5 (.int .u8 0) 1 rfl Try.underlying22 info5 rfl (by decide) (by omega) u5 (octet_put_2_byte.bs a0 1) (a0 % 256) [.int .u8 (a0 % 256)] (fun _ => True) (fun _ => False) rfl rfl ?aP (fun _ hk => hk.elim) ?aF ?aO ?aB ?aS ?aL ?_; (case aP => exact rfl); (case aB => exact HBB.out); (case aF => exact (fun _ _ => trivial)); (case aO => exact HR.out); (case aS => exact HS.out); (case aL => rw [octet_put_2_byte.bs_length]; omega); intro v102 w14 ho hb hg hat; rw [HBS.out] at ho; have n0_ := Aside0.mk (hb); have n1_ := Aside0.mk (ho); have n2_ := Aside0.mk (hg.size); clear HBB HR; have HBB := n0_; have HR := n1_; have HS2 := n2_; clear n0_ n1_ n2_; clear ho hb hg hat))
            go_roundg (gk - 1)
            case measure => have := HI.out; omega
            case rel => exact ⟨2, rfl, by omega, ⟨by have := HI.out; omega⟩, HR, HBB, ⟨Nat.le_trans HS.out HS2.out⟩⟩
        · obtain rfl : i = 2 := by omega
          go_wp2
          go_ret2
          exact ⟨_, rfl, Kd.R_lower HR.out (by omega), (below_alloc HB.out _).trans (HBB.out.mono (by omega))⟩
    · rw [if_neg (by omega)] at h
      simp only [Option.some.injEq, Prod.mk.injEq] at h
      obtain ⟨rfl, rfl⟩ := h
      have c5 : (a0 / 65536 != 0) = true := by
        rw [bne_iff_ne]; omega
      clear c0 c1
      go_enter Try.func88, Try.ntmps88
      go_wp2
      go_ret2
      exact ⟨_, rfl, Kd.R_nil _ _ _ _ _, below_alloc HB.out _⟩
end Go.Proofs.Ytjjbhpbmfpodeaa.X
