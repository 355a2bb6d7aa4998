/- Plain lemmas on the document's Get16, Get32 and Bytes: they tell what the program's tell. -/
import Derived.Test.YtjjbhpbmfpodeaaH39
import Derived.Test.YtjjbhpbmfpodeaaX41
import Derived.Test.YtjjbhpbmfpodeaaX42
import Derived.Test.YtjjbhpbmfpodeaaX43
import Derived.Test.YtjjbhpbmfpodeaaPW
namespace Go.Proofs.Ytjjbhpbmfpodeaa.PB
open Go.RowKit Go.Proofs.Ytjjbhpbmfpodeaa.X Go.Proofs.YtjjbhpbmfpodeaaW.PrintWords Go.Proofs.YtjjbhpbmfpodeaaW.PrintLast
set_option linter.unusedVariables false
set_option linter.unusedSimpArgs false

theorem refBytes_f {k : Nat} {l : List Int} {a n : Int} (hl : l.length ≤ 140737488351232) : ostiaryref03_Bytes.f (k + 1) l a n = some (bytesR l a n) := by
  unfold bytesR ostiaryref03_Bytes.f
  by_cases h1 : n < 0
  · rw [if_pos h1, if_pos h1]
  · rw [if_neg h1, if_neg h1]
    by_cases h2 : a < 0
    · rw [if_pos h2, if_pos (Or.inl h2), ostiaryref03_Bytes.j0, if_pos rfl]
    · rw [if_neg h2]
      by_cases h3 : (l.length : Int) < a
      · rw [if_pos (Or.inr h3), decide_eq_true (by omega), ostiaryref03_Bytes.j0, if_pos rfl]
      · rw [if_neg (fun h => h.elim h2 h3), decide_eq_false (by omega), ostiaryref03_Bytes.j0, if_neg (by decide), w64 (x := (l.length : Int) - a) (by omega) (by omega)]
        by_cases h4 : (l.length : Int) < a + n
        · rw [if_pos (by omega), if_pos h4]
        · rw [if_neg (by omega), if_neg h4, w64 (x := a + n) (by omega) (by omega)]
          simp only [Option.bind_some]
          rw [if_pos (by omega), if_pos (by omega), if_pos (by omega), if_pos (by simp; omega), List.nil_append, List.drop_take]
          congr 3
          omega

/-- What Get16 (s = 2) and Get32 (s = 4) tell. -/
def getR (l : List Int) (a s : Int) : Int × Int × Int × Int :=
  if a < 0 ∨ (l.length : Int) < a then (0, 0, 5, 0) else if (l.length : Int) < a + s then (0, 0, 4, (l.length : Int)) else (beVal ((l.drop a.toNat).take s.toNat), a + s, 0, 0)
theorem getR_f {l : List Int} {a s : Int} (hb : bytesB l = true) (hs : s = 2 ∨ s = 4) (hl : l.length ≤ 140737488355328) : octet_get.f l a s = some (getR l a s) := by
  unfold getR
  by_cases h2 : a < 0 ∨ (l.length : Int) < a
  · rw [if_pos h2]; exact get_range hb hs hl h2
  · rw [if_neg h2]
    by_cases h3 : (l.length : Int) < a + s
    · rw [if_pos h3]; exact get_short hb hs hl (by omega) (by omega) h3
    · rw [if_neg h3]; exact get_ok hb hs hl (by omega) (by omega)
theorem get16R {l : List Int} {a : Int} (hb : bytesB l = true) (hl : l.length ≤ 140737488355328) : octet_Get16.f l a = some (getR l a 2) := get16_of (getR_f hb (.inl rfl) hl)
theorem get32R {l : List Int} {a : Int} (hb : bytesB l = true) (hl : l.length ≤ 140737488355328) : octet_Get32.f l a = some (getR l a 4) := get32_of (getR_f hb (.inr rfl) hl)

theorem take_four (l : List Int) (i : Int) (h0 : 0 ≤ i) (h : i + 3 < l.length) : (l.drop i.toNat).take (4 : Int).toNat = [rd l i, rd l (i + 1), rd l (i + 2), rd l (i + 3)] := by
  rw [show (4 : Int).toNat = 3 + 1 from rfl, take_head l i h0 (by omega), List.drop_drop, show i.toNat + 1 = (i + 1).toNat by omega, take_head l (i + 1) (by omega) (by omega), List.drop_drop, show (i + 1).toNat + 1 = (i + 2).toNat by omega, take_head l (i + 2) (by omega) (by omega), List.drop_drop, show (i + 2).toNat + 1 = (i + 3).toNat by omega, take_head l (i + 3) (by omega) h]
  rfl

theorem refget2 {k : Nat} {l : List Int} {a : Int} (hb : bytesB l = true) (hl : l.length ≤ 140737488351232) : ostiaryref03_get.f (k + 5) l a 2 = some (getR l a 2) := by
  unfold ostiaryref03_get.f
  rw [refBytes_f hl]
  simp only [Option.bind_some]
  unfold bytesR getR
  rw [if_neg (show ¬ ((2 : Int) < 0) by decide)]
  by_cases h2 : a < 0 ∨ (l.length : Int) < a
  · rw [if_pos h2, if_pos h2]; rfl
  · rw [if_neg h2, if_neg h2]
    by_cases h3 : (l.length : Int) < a + 2
    · rw [if_pos h3, if_pos h3]; rfl
    · rw [if_neg h3, if_neg h3]
      rw [if_pos rfl, take_two l a (by omega) (by omega)]
      have r1 := rd_byte hb a
      have r2 := rd_byte hb (a + 1)
      generalize rd l a = x at *
      generalize rd l (a + 1) = y at *
      simp [ostiaryref03_get.l0, rd, wrap64, beVal]
      omega
theorem refget4 {k : Nat} {l : List Int} {a : Int} (hb : bytesB l = true) (hl : l.length ≤ 140737488351232) : ostiaryref03_get.f (k + 5) l a 4 = some (getR l a 4) := by
  unfold ostiaryref03_get.f
  rw [refBytes_f hl]
  simp only [Option.bind_some]
  unfold bytesR getR
  rw [if_neg (show ¬ ((4 : Int) < 0) by decide)]
  by_cases h2 : a < 0 ∨ (l.length : Int) < a
  · rw [if_pos h2, if_pos h2]; rfl
  · rw [if_neg h2, if_neg h2]
    by_cases h3 : (l.length : Int) < a + 4
    · rw [if_pos h3, if_pos h3]; rfl
    · rw [if_neg h3, if_neg h3]
      rw [if_pos rfl, take_four l a (by omega) (by omega)]
      have r1 := rd_byte hb a
      have r2 := rd_byte hb (a + 1)
      have r3 := rd_byte hb (a + 2)
      have r4 := rd_byte hb (a + 3)
      generalize rd l a = x at *
      generalize rd l (a + 1) = y at *
      generalize rd l (a + 2) = z at *
      generalize rd l (a + 3) = u at *
      simp [ostiaryref03_get.l0, rd, wrap64, beVal]
      omega
theorem ref16R {k : Nat} {l : List Int} {a : Int} (hb : bytesB l = true) (hl : l.length ≤ 140737488351232) : ostiaryref03_Get16.f (k + 5) l a = some (getR l a 2) := by
  unfold ostiaryref03_Get16.f; rw [refget2 hb hl]; rfl
theorem ref32R {k : Nat} {l : List Int} {a : Int} (hb : bytesB l = true) (hl : l.length ≤ 140737488351232) : ostiaryref03_Get32.f (k + 5) l a = some (getR l a 4) := by
  unfold ostiaryref03_Get32.f; rw [refget4 hb hl]; rfl
end Go.Proofs.Ytjjbhpbmfpodeaa.PB
