/- The plain law of OctetBack: what is put is got, wherever it stands; bytes that are got are those that are put. -/
import Derived.Test.YtjjbhpbmfpodeaaX4
import Derived.Test.YtjjbhpbmfpodeaaPB
namespace Go.Proofs.Ytjjbhpbmfpodeaa.Pure
open Go.RowKit Go.Proofs.Ytjjbhpbmfpodeaa.X Go.Proofs.YtjjbhpbmfpodeaaW.PrintWords Go.Proofs.YtjjbhpbmfpodeaaW.PrintLast Go.Proofs.Ytjjbhpbmfpodeaa.PB

theorem back_j3 (k : Nat) (b : List Int) (hb : bytesB b = true) (hl : b.length ≤ 100) : ostiarylaw03_OctetBack.j3 (k + 1) b true = some true := by
  simp only [ostiarylaw03_OctetBack.j3]
  by_cases h4 : 4 ≤ b.length
  · obtain ⟨c0, c1, c2, c3, t, rfl⟩ : ∃ c0 c1 c2 c3 t, b = c0 :: c1 :: c2 :: c3 :: t := by
      match b, h4 with
      | c0 :: c1 :: c2 :: c3 :: t, _ => exact ⟨_, _, _, _, _, rfl⟩
    have hc : (0 ≤ c0 ∧ c0 ≤ 255) ∧ (0 ≤ c1 ∧ c1 ≤ 255) ∧ (0 ≤ c2 ∧ c2 ≤ 255) ∧ (0 ≤ c3 ∧ c3 ≤ 255) := by
      simp only [bytesB, List.all_cons, Bool.and_eq_true, decide_eq_true_eq] at hb
      exact ⟨hb.1, hb.2.1, hb.2.2.1, hb.2.2.2.1⟩
    have hlen : (c0 :: c1 :: c2 :: c3 :: t).length = t.length + 4 := rfl
    rw [get32_of (get_ok hb (by omega) (by omega) (by omega) (by omega))]
    simp only [Option.bind_some]
    rw [get16_of (get_ok hb (by omega) (by omega) (by omega) (by omega)), get16_of (get_ok hb (by omega) (by omega) (by omega) (by omega))]
    have e4 : beVal (((c0 :: c1 :: c2 :: c3 :: t).drop (Int.toNat 0)).take (Int.toNat 4)) = 16777216 * c0 + 65536 * c1 + 256 * c2 + c3 := by
      simp [beVal]; omega
    have e1 : beVal (((c0 :: c1 :: c2 :: c3 :: t).drop (Int.toNat 0)).take (Int.toNat 2)) = 256 * c0 + c1 := by
      simp [beVal]
    have e2 : beVal (((c0 :: c1 :: c2 :: c3 :: t).drop (Int.toNat 2)).take (Int.toNat 2)) = 256 * c2 + c3 := by
      simp [beVal]
    rw [e4, e1, e2]
    rw [put32_ok (by omega) (by omega)]
    simp only [Option.bind_some, if_true]
    have e5 : bs32 (16777216 * c0 + 65536 * c1 + 256 * c2 + c3) = (c0 :: c1 :: c2 :: c3 :: t).take (Int.toNat (0 + 4)) := by
      simp [bs32]; omega
    rw [e5, same_self]
    rw [if_pos (by omega), if_pos (by omega)]
    simp only [Option.bind_some, if_true]
    have : wrap64 (wrap64 (65536 * (256 * c0 + c1)) + (256 * c2 + c3)) = 16777216 * c0 + 65536 * c1 + 256 * c2 + c3 := by
      unfold wrap64; omega
    rw [this]
    simp
  · rw [get32_of (get_short hb (by omega) (by omega) (by omega) (by omega) (by omega))]
    simp

theorem back_j2 (k : Nat) (n : Int) (a b : List Int) (ha : bytesB a = true) (hal : a.length ≤ 100) (hb : bytesB b = true) (hl : b.length ≤ 100) : ostiarylaw03_OctetBack.j2 (k + 2) n a b true = some true := by
  simp only [ostiarylaw03_OctetBack.j2]
  by_cases h : 0 ≤ n ∧ n < 4294967296
  · rw [put32_ok h.1 h.2]
    simp only [Option.bind_some, if_true]
    rw [copy_ok (by omega)]
    have hs : (bs32 n).length = 4 := rfl
    simp only [Option.bind_some]
    rw [if_pos (by omega), if_pos (by simp; omega)]
    rw [get32_of (get_ok (by rw [bytesB_append, bytesB_append]; exact ⟨⟨ha, bytesB_bs32 n⟩, hb⟩) (by omega) (by simp; omega) (by omega) (by simp; omega))]
    have e : ((a ++ bs32 n ++ b).drop (Int.toNat (a.length : Int))).take (Int.toNat 4) = bs32 n := by
      rw [Int.toNat_natCast, List.append_assoc, List.drop_left, List.take_append_of_le_length (by rw [hs]; decide)]
      rw [List.take_of_length_le (by rw [hs]; decide)]
    rw [e, beVal_bs32 h.1 h.2]
    simp only [Option.bind_some, if_true]
    rw [if_pos (by unfold wrap64; omega), if_pos (by rw [hs]; rfl)]
    exact back_j3 k b hb hl
  · rw [put32_no (by omega)]
    simp only [Option.bind_some]
    rw [if_neg (by omega)]
    exact back_j3 k b hb hl

theorem back_j1 (k : Nat) (n : Int) (a b : List Int) (ha : bytesB a = true) (hal : a.length ≤ 100) (hb : bytesB b = true) (hl : b.length ≤ 100) (e : Int) (bs : List Int) (hp : octet_Put16.f n = some (bs, e)) :
    ostiarylaw03_OctetBack.j1 (k + 3) n a b true bs e false = some true := by
  simp only [ostiarylaw03_OctetBack.j1]
  rw [if_neg (by decide)]
  by_cases h : 0 ≤ n ∧ n < 65536
  · rw [put16_ok h.1 h.2] at hp
    simp only [Option.some.injEq, Prod.mk.injEq] at hp
    obtain ⟨rfl, rfl⟩ := hp
    rw [if_pos rfl, copy_ok (by omega)]
    have hs : (bs16 n).length = 2 := rfl
    simp only [Option.bind_some]
    rw [if_pos (by omega), if_pos (by simp; omega)]
    rw [get16_of (get_ok (by rw [bytesB_append, bytesB_append]; exact ⟨⟨ha, bytesB_bs16 n⟩, hb⟩) (by omega) (by simp; omega) (by omega) (by simp; omega))]
    have e : ((a ++ bs16 n ++ b).drop (Int.toNat (a.length : Int))).take (Int.toNat 2) = bs16 n := by
      rw [Int.toNat_natCast, List.append_assoc, List.drop_left, List.take_append_of_le_length (by rw [hs]; decide)]
      rw [List.take_of_length_le (by rw [hs]; decide)]
    rw [e, beVal_bs16 h.1 h.2]
    simp only [Option.bind_some, if_true]
    rw [if_pos (by unfold wrap64; omega), if_pos (by rw [hs]; rfl)]
    exact back_j2 k n a b ha hal hb hl
  · rw [put16_no (by omega)] at hp
    simp only [Option.some.injEq, Prod.mk.injEq] at hp
    obtain ⟨rfl, rfl⟩ := hp
    rw [if_neg (by omega)]
    exact back_j2 k n a b ha hal hb hl

theorem OctetBack : ostiarylaw03_OctetBack.Pure := by
  intro n a b hn _ ha hab _ hb hbb
  refine ⟨4, ?_⟩
  unfold ostiarylaw03_OctetBack.f
  rw [awake]
  simp only [Option.bind_some]
  by_cases h1 : (a.length : Int) > 100
  · rw [if_pos h1]
    simp only [ostiarylaw03_OctetBack.j0]
    rw [if_pos trivial]
  · rw [if_neg h1]
    by_cases h2 : (b.length : Int) > 100
    · rw [decide_eq_true h2]
      simp only [ostiarylaw03_OctetBack.j0]
      rw [if_pos trivial]
    · rw [decide_eq_false h2]
      simp only [ostiarylaw03_OctetBack.j0]
      rw [if_neg (by decide)]
      have hA := bytesB_of hab
      have hB := bytesB_of hbb
      by_cases h : 0 ≤ n ∧ n < 65536
      · rw [put16_ok h.1 h.2]
        simp only [Option.bind_some]
        rw [if_pos (by omega), decide_eq_true h.2]
        exact back_j1 0 n a b hA (by omega) hB (by omega) 0 _ (put16_ok h.1 h.2)
      · rw [put16_no (by omega)]
        simp only [Option.bind_some]
        by_cases h3 : n ≥ 0
        · rw [if_pos h3, decide_eq_false (by omega)]
          exact back_j1 0 n a b hA (by omega) hB (by omega) 5 _ (put16_no (by omega))
        · rw [if_neg h3]
          exact back_j1 0 n a b hA (by omega) hB (by omega) 5 _ (put16_no (by omega))
end Go.Proofs.Ytjjbhpbmfpodeaa.Pure
