/- The plain law of OctetParts: bytes told from one place on, then from where they ended on, are those told at once. -/
import Derived.Test.YtjjbhpbmfpodeaaX5
import Derived.Test.YtjjbhpbmfpodeaaPB
namespace Go.Proofs.Ytjjbhpbmfpodeaa.Pure
open Go.RowKit Go.Proofs.Ytjjbhpbmfpodeaa.X Go.Proofs.YtjjbhpbmfpodeaaW.PrintWords Go.Proofs.YtjjbhpbmfpodeaaW.PrintLast Go.Proofs.Ytjjbhpbmfpodeaa.PB

theorem OctetParts : ostiarylaw03_OctetParts.Pure := by
  intro l a n m _ hl hb ha hn hm
  refine ⟨1, ?_⟩
  unfold ostiarylaw03_OctetParts.f
  rw [awake]
  simp only [Option.bind_some]
  by_cases h1 : (l.length : Int) > 1000
  · rw [if_pos h1]
  · rw [if_neg h1, w64 (x := (l.length : Int) + 1) (by omega) (by omega), w64 (x := (l.length : Int) + 2) (by omega) (by omega)]
    rw [pick_ok ha (by omega), pick_ok hn (by omega), pick_ok hm (by omega)]
    simp only [Option.bind_some]
    obtain ⟨a0, a1⟩ := pick_range a (show (0 : Int) < (l.length : Int) + 1 by omega)
    obtain ⟨n0, n1⟩ := pick_range n (show (0 : Int) < (l.length : Int) + 2 by omega)
    obtain ⟨m0, m1⟩ := pick_range m (show (0 : Int) < (l.length : Int) + 2 by omega)
    generalize pick a ((l.length : Int) + 1) = A at *
    generalize pick n ((l.length : Int) + 2) = B at *
    generalize pick m ((l.length : Int) + 2) = C at *
    rw [w64 (x := B + C) (by omega) (by omega)]
    by_cases h2 : A + B ≤ l.length
    · rw [bytes_ok (k := 0) (by omega) a0 n0 h2]
      simp only [Option.bind_some]
      by_cases h3 : A + (B + C) ≤ l.length
      · rw [bytes_ok (k := 0) (by omega) a0 (by omega) h3]
        simp only [Option.bind_some]
        rw [bytes_ok (k := 0) (by omega) (by omega) m0 (by omega)]
        simp only [Option.bind_some]
        simp only [Bool.false_eq_true, if_false, Bool.not_true, beq_self_eq_true, Bool.or_false]
        simp only [if_true]
        rw [if_pos (show A + B + C = A + (B + C) by omega), copy_ok (by simp; omega)]
        simp only [Option.bind_some]
        have e : (l.drop A.toNat).take B.toNat ++ (l.drop (A + B).toNat).take C.toNat = (l.drop A.toNat).take (B + C).toNat := by
          rw [show (A + B).toNat = A.toNat + B.toNat by omega, show (B + C).toNat = B.toNat + C.toNat by omega, List.take_add, List.drop_drop]
        rw [if_pos (by simp; omega), e, same_self]
        rfl
      · rw [bytes_short (k := 0) (by omega) a0 (by omega) (by omega) (by omega)]
        simp only [Option.bind_some]
        rw [bytes_short (k := 0) (by omega) (by omega) (by omega) m0 (by omega)]
        simp
    · rw [bytes_short (k := 0) (by omega) a0 (by omega) n0 (by omega)]
      simp only [Option.bind_some]
      rw [bytes_short (k := 0) (by omega) a0 (by omega) (by omega) (by omega)]
      simp
end Go.Proofs.Ytjjbhpbmfpodeaa.Pure
