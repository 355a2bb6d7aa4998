/- Plain lemmas on wire.Read and the document's: they tell the same of any bytes at any place. -/
import Derived.Test.YtjjbhpbmfpodeaaPureWireEnds
import Derived.Test.YtjjbhpbmfpodeaaX46
namespace Go.Proofs.Ytjjbhpbmfpodeaa.PB
open Go.RowKit Go.Proofs.Ytjjbhpbmfpodeaa.X Go.Proofs.YtjjbhpbmfpodeaaW.PrintWords Go.Proofs.YtjjbhpbmfpodeaaW.PrintLast
set_option linter.unusedVariables false
set_option linter.unusedSimpArgs false

theorem str_append (a b : List Int) : strOfNums a ++ strOfNums b = strOfNums (a ++ b) := by
  apply ByteArray.ext
  rw [ByteArray.data_append]
  unfold strOfNums
  simp
theorem str_zero : (⟨#[0]⟩ : ByteArray) = strOfNums [0] := by decide

theorem ref_loop {l : List Int} (hb : bytesB l = true) (hl : l.length ≤ 140737488351232) {at_ : Int} (ha0 : 0 ≤ at_) (ha1 : at_ ≤ l.length) : ∀ (M : Nat) (out : List Int) (part i behind : Int),
    out.length ≤ 254 → 0 ≤ i → i ≤ l.length → 0 ≤ part → part ≤ l.length → part.toNat + (256 - out.length) ≤ M →
    ∃ r, (∀ k, M < k → wire_Read.l0 k l at_ out part i behind = some r) ∧ (∀ k, M < k → ostiaryref05_Read.l0 k l at_ (strOfNums out) behind part i 4 (l.length : Int) = some r) := by
  intro M
  induction M with
  | zero => intro out part i behind _ _ _ _ _ _; omega
  | succ M ih =>
    intro out part i behind hol h0 h1 hp0 hp1 hM
    by_cases hend : i = l.length
    · refine ⟨(⟨#[]⟩, 0, 4, (l.length : Int)), fun k hk => ?_, fun k hk => ?_⟩
      · obtain ⟨k, rfl⟩ : ∃ m, k = m + 1 := ⟨k - 1, by omega⟩
        rw [wire_Read.l0, if_pos (by omega)]
      · obtain ⟨k, rfl⟩ : ∃ m, k = m + 1 := ⟨k - 1, by omega⟩
        rw [ostiaryref05_Read.l0, if_pos (by omega)]
    have hrb := rd_byte hb i
    have hw : wrap64 (rd l i) = rd l i := w64 (by omega) (by omega)
    have hwi : wrap64 (i + 1) = i + 1 := w64 (by omega) (by omega)
    have hso : (strOfNums out).size = out.length := strOfNums_size out
    by_cases hz : rd l i = 0
    · refine ⟨(strOfNums (out ++ [0]), (if behind < 0 then i + 1 else behind), 0, 0), fun k hk => ?_, fun k hk => ?_⟩
      · obtain ⟨k, rfl⟩ : ∃ m, k = m + 1 := ⟨k - 1, by omega⟩
        rw [wire_Read.l0, if_neg (by omega), if_pos h0, if_pos (by omega), hw, if_pos hz, hwi]
        by_cases hbe : behind < 0
        · rw [if_pos hbe, if_pos hbe, if_pos (by omega)]
        · rw [if_neg hbe, if_neg hbe, if_pos (by omega)]
      · obtain ⟨k, rfl⟩ : ∃ m, k = m + 1 := ⟨k - 1, by omega⟩
        rw [ostiaryref05_Read.l0, if_neg (by omega), if_pos h0, if_pos (by omega), hw, if_pos hz, hwi, str_zero, str_append, hso]
        by_cases hbe : behind < 0
        · rw [if_pos hbe, if_pos hbe, if_pos (by omega)]
        · rw [if_neg hbe, if_neg hbe, if_pos (by omega)]
    by_cases hptr : rd l i ≥ 192
    · by_cases hsh : (l.length : Int) < i + 2
      · refine ⟨(⟨#[]⟩, 0, 4, (l.length : Int)), fun k hk => ?_, fun k hk => ?_⟩
        · obtain ⟨k, rfl⟩ : ∃ m, k = m + 1 := ⟨k - 1, by omega⟩
          rw [wire_Read.l0, if_neg (by omega), if_pos h0, if_pos (by omega), hw, if_neg hz, if_pos hptr, get16_of (get_short hb (.inl rfl) (by omega) h0 h1 hsh)]
          rfl
        · obtain ⟨k, rfl⟩ : ∃ m, k = m + 1 := ⟨k - 1, by omega⟩
          rw [ostiaryref05_Read.l0, if_neg (by omega), if_pos h0, if_pos (by omega), hw, if_neg hz, if_neg (by omega), if_neg (by omega), hwi, if_pos (by omega)]
      have hg := get16_of (get_ok (a := i) (s := 2) hb (.inl rfl) (by omega) h0 (by omega))
      have hrb2 := rd_byte hb (i + 1)
      have hn : beVal ((l.drop i.toNat).take (2 : Int).toNat) = 256 * rd l i + rd l (i + 1) := by
        rw [take_two l i h0 (by omega)]
        simp only [beVal, List.foldl_cons, List.foldl_nil]
        omega
      rw [hn] at hg
      have hand := and14 (n := 256 * rd l i + rd l (i + 1)) (by omega) (by omega)
      obtain ⟨t, ht⟩ : ∃ t, t = 256 * (rd l i - 192) + rd l (i + 1) := ⟨_, rfl⟩
      have hand2 : (256 * rd l i + rd l (i + 1)) % 16384 = t := by omega
      rw [hand2] at hand
      have hwt : wrap64 (wrap64 (256 * wrap64 (rd l i - 192)) + wrap64 (rd l (i + 1))) = t := by
        rw [w64 (x := rd l i - 192) (by omega) (by omega), w64 (x := 256 * (rd l i - 192)) (by omega) (by omega), w64 (x := rd l (i + 1)) (by omega) (by omega), ← ht, w64 (by omega) (by omega)]
      have hw2 : wrap64 (i + 2) = i + 2 := w64 (by omega) (by omega)
      by_cases hloop : t ≥ part
      · refine ⟨(⟨#[]⟩, 0, 150, i), fun k hk => ?_, fun k hk => ?_⟩
        · obtain ⟨k, rfl⟩ : ∃ m, k = m + 1 := ⟨k - 1, by omega⟩
          rw [wire_Read.l0, if_neg (by omega), if_pos h0, if_pos (by omega), hw, if_neg hz, if_pos hptr, hg]
          simp only [Option.bind_some]
          rw [if_pos trivial, hand, if_pos hloop]
        · obtain ⟨k, rfl⟩ : ∃ m, k = m + 1 := ⟨k - 1, by omega⟩
          rw [ostiaryref05_Read.l0, if_neg (by omega), if_pos h0, if_pos (by omega), hw, if_neg hz, if_neg (by omega), if_neg (by omega), hwi, if_neg (by omega), if_pos (by omega), if_pos (by omega)]
          rw [hw] at *
          rw [hwt, if_pos hloop]
      obtain ⟨r, hr, hr2⟩ := ih out t t (if behind < 0 then i + 2 else behind) hol (by omega) (by omega) (by omega) (by omega) (by omega)
      refine ⟨r, fun k hk => ?_, fun k hk => ?_⟩
      · obtain ⟨k, rfl⟩ : ∃ m, k = m + 1 := ⟨k - 1, by omega⟩
        rw [wire_Read.l0, if_neg (by omega), if_pos h0, if_pos (by omega), hw, if_neg hz, if_pos hptr, hg]
        simp only [Option.bind_some]
        rw [if_pos trivial, hand, if_neg hloop]
        have := hr k (by omega)
        by_cases hbe : behind < 0
        · rw [if_pos hbe] at this ⊢; exact this
        · rw [if_neg hbe] at this ⊢; exact this
      · obtain ⟨k, rfl⟩ : ∃ m, k = m + 1 := ⟨k - 1, by omega⟩
        rw [ostiaryref05_Read.l0, if_neg (by omega), if_pos h0, if_pos (by omega), hw, if_neg hz, if_neg (by omega), if_neg (by omega), hwi, if_neg (by omega), if_pos (by omega), if_pos (by omega)]
        rw [hwt, if_neg hloop, hw2]
        have := hr2 k (by omega)
        by_cases hbe : behind < 0
        · rw [if_pos hbe] at this ⊢; exact this
        · rw [if_neg hbe] at this ⊢; exact this
    by_cases h63 : rd l i > 63
    · refine ⟨(⟨#[]⟩, 0, 4, i), fun k hk => ?_, fun k hk => ?_⟩
      · obtain ⟨k, rfl⟩ : ∃ m, k = m + 1 := ⟨k - 1, by omega⟩
        rw [wire_Read.l0, if_neg (by omega), if_pos h0, if_pos (by omega), hw, if_neg hz, if_neg hptr, if_pos h63]
      · obtain ⟨k, rfl⟩ : ∃ m, k = m + 1 := ⟨k - 1, by omega⟩
        rw [ostiaryref05_Read.l0, if_neg (by omega), if_pos h0, if_pos (by omega), hw, if_neg hz, if_neg (by omega), if_pos (by omega)]
    have hw2 : wrap64 (rd l i + 1) = rd l i + 1 := w64 (by omega) (by omega)
    have hw3 : wrap64 (i + 1 + rd l i) = i + 1 + rd l i := w64 (by omega) (by omega)
    by_cases hsh : (l.length : Int) < i + (rd l i + 1)
    · refine ⟨(⟨#[]⟩, 0, 4, (l.length : Int)), fun k hk => ?_, fun k hk => ?_⟩
      · obtain ⟨k, rfl⟩ : ∃ m, k = m + 2 := ⟨k - 2, by omega⟩
        rw [wire_Read.l0, if_neg (by omega), if_pos h0, if_pos (by omega), hw, if_neg hz, if_neg hptr, if_neg h63, hw2, bytes_short hl h0 h1 (by omega) hsh]
        rfl
      · obtain ⟨k, rfl⟩ : ∃ m, k = m + 1 := ⟨k - 1, by omega⟩
        rw [ostiaryref05_Read.l0, if_neg (by omega), if_pos h0, if_pos (by omega), hw, if_neg hz, if_pos (by omega), hwi, hw3, if_pos (by omega)]
    have hbk : ∀ k, octet_Bytes.f (k + 1) l i (rd l i + 1) = _ := fun k => bytes_ok (k := k) hl h0 (by omega) (by omega)
    obtain ⟨lb, hlb⟩ : ∃ lb, lb = (l.drop i.toNat).take (rd l i + 1).toNat := ⟨_, rfl⟩
    rw [← hlb] at hbk
    have hlbl : (lb.length : Int) = rd l i + 1 := by rw [hlb]; simp; omega
    have hlb2 : (l.take (i + 1 + rd l i).toNat).drop i.toNat = lb := by
      rw [List.drop_take, hlb]; congr 1; omega
    by_cases hlong : ((out ++ lb).length : Int) > 254
    · refine ⟨(⟨#[]⟩, 0, 3, at_), fun k hk => ?_, fun k hk => ?_⟩
      · obtain ⟨k, rfl⟩ : ∃ m, k = m + 2 := ⟨k - 2, by omega⟩
        rw [wire_Read.l0, if_neg (by omega), if_pos h0, if_pos (by omega), hw, if_neg hz, if_neg hptr, if_neg h63, hw2, hbk]
        simp only [Option.bind_some]
        rw [if_pos trivial, if_pos (by omega), if_pos hlong]
      · obtain ⟨k, rfl⟩ : ∃ m, k = m + 1 := ⟨k - 1, by omega⟩
        rw [ostiaryref05_Read.l0, if_neg (by omega), if_pos h0, if_pos (by omega), hw, if_neg hz, if_pos (by omega), hwi, hw3, if_neg (by omega), if_pos (by omega), if_pos (by omega), hlb2, str_append, hso, strOfNums_size, strOfNums_size, if_pos (by omega), if_pos hlong]
    simp only [List.length_append] at hlong
    obtain ⟨r, hr, hr2⟩ := ih (out ++ lb) part (i + (rd l i + 1)) behind (by simp; omega) (by omega) (by omega) hp0 hp1 (by simp; omega)
    refine ⟨r, fun k hk => ?_, fun k hk => ?_⟩
    · obtain ⟨k, rfl⟩ : ∃ m, k = m + 2 := ⟨k - 2, by omega⟩
      rw [wire_Read.l0, if_neg (by omega), if_pos h0, if_pos (by omega), hw, if_neg hz, if_neg hptr, if_neg h63, hw2, hbk]
      simp only [Option.bind_some]
      rw [if_pos trivial, if_pos (by omega), if_neg (by simp only [List.length_append]; omega)]
      exact hr _ (by omega)
    · obtain ⟨k, rfl⟩ : ∃ m, k = m + 1 := ⟨k - 1, by omega⟩
      rw [ostiaryref05_Read.l0, if_neg (by omega), if_pos h0, if_pos (by omega), hw, if_neg hz, if_pos (by omega), hwi, hw3, if_neg (by omega), if_pos (by omega), if_pos (by omega), hlb2, str_append, hso, strOfNums_size, strOfNums_size, if_pos (by omega), if_neg (by simp only [List.length_append]; omega)]
      have := hr2 k (by omega)
      rw [show i + (rd l i + 1) = i + 1 + rd l i by omega] at this
      exact this

/-- wire.Read and the document's tell the same. -/
theorem read_same {l : List Int} (hb : bytesB l = true) (hl : l.length ≤ 140737488351232) (a : Int) :
    ∃ r, (∀ k, a.toNat + 257 < k → wire_Read.f k l a = some r) ∧ (∀ k, a.toNat + 257 < k → ostiaryref05_Read.f k l a = some r) := by
  by_cases h0 : a < 0
  · refine ⟨(⟨#[]⟩, 0, 5, 0), fun k hk => ?_, fun k hk => ?_⟩
    · obtain ⟨k, rfl⟩ : ∃ m, k = m + 1 := ⟨k - 1, by omega⟩
      unfold wire_Read.f
      rw [if_pos h0, wire_Read.j0, if_pos rfl]
    · obtain ⟨k, rfl⟩ : ∃ m, k = m + 1 := ⟨k - 1, by omega⟩
      unfold ostiaryref05_Read.f
      rw [if_pos h0, ostiaryref05_Read.j0, if_pos rfl]
  by_cases h1 : a > l.length
  · refine ⟨(⟨#[]⟩, 0, 5, 0), fun k hk => ?_, fun k hk => ?_⟩
    · obtain ⟨k, rfl⟩ : ∃ m, k = m + 1 := ⟨k - 1, by omega⟩
      unfold wire_Read.f
      rw [if_neg h0, decide_eq_true h1, wire_Read.j0, if_pos rfl]
    · obtain ⟨k, rfl⟩ : ∃ m, k = m + 1 := ⟨k - 1, by omega⟩
      unfold ostiaryref05_Read.f
      rw [if_neg h0, decide_eq_true h1, ostiaryref05_Read.j0, if_pos rfl]
  obtain ⟨r, hr, hr2⟩ := ref_loop hb hl (by omega : 0 ≤ a) (by omega) (a.toNat + 256) [] a a (-1) (by simp) (by omega) (by omega) (by omega) (by omega) (by simp)
  refine ⟨r, fun k hk => ?_, fun k hk => ?_⟩
  · obtain ⟨k, rfl⟩ : ∃ m, k = m + 1 := ⟨k - 1, by omega⟩
    unfold wire_Read.f
    rw [if_neg h0, decide_eq_false (by omega), wire_Read.j0, if_neg (by decide)]
    exact hr k (by omega)
  · obtain ⟨k, rfl⟩ : ∃ m, k = m + 1 := ⟨k - 1, by omega⟩
    unfold ostiaryref05_Read.f
    rw [if_neg h0, decide_eq_false (by omega), ostiaryref05_Read.j0, if_neg (by decide)]
    exact hr2 k (by omega)
end Go.Proofs.Ytjjbhpbmfpodeaa.PB
