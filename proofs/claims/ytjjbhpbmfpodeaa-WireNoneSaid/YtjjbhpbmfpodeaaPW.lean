/- Plain lemmas on wire.Read: at each place there is a name with its end, or a fault within the bytes; a name without a pointer is read the same of what is behind. -/
import Derived.Test.YtjjbhpbmfpodeaaPN
import Derived.Test.YtjjbhpbmfpodeaaX45
namespace Go.Proofs.Ytjjbhpbmfpodeaa.PB
open Go.RowKit Go.Proofs.Ytjjbhpbmfpodeaa.X Go.Proofs.YtjjbhpbmfpodeaaW.PrintWords Go.Proofs.YtjjbhpbmfpodeaaW.PrintLast
set_option linter.unusedVariables false
set_option linter.unusedSimpArgs false

/-- What the loop of wire.Read tells from (out, i, behind) on. -/
def RdQ (l : List Int) (at_ : Int) (M : Nat) (out : List Int) (i behind : Int) (r : ByteArray × Int × Int × Int) : Prop :=
  (r.2.2.1 ≠ 0 ∧ r.1 = ⟨#[]⟩ ∧ r.2.1 = 0 ∧ 0 ≤ r.2.2.2 ∧ r.2.2.2 ≤ l.length) ∨
  (∃ (ls : List Int) (nx : Int), Lab ls ∧ bytesB ls = true ∧ out.length + ls.length ≤ 254 ∧ r = (strOfNums (out ++ ls ++ [0]), nx, 0, 0) ∧ (0 ≤ behind → nx = behind) ∧
    (behind < 0 → i < nx ∧ nx ≤ l.length ∧ nx ≤ i + ls.length + 2 ∧
      ((nx = i + ls.length + 1 ∧ ∀ (k : Nat) (a0 p2 : Int) (a : Nat), M < k → (a : Int) ≤ i → wire_Read.l0 k (l.drop a) a0 out p2 (i - a) (-1) = some (strOfNums (out ++ ls ++ [0]), nx - a, 0, 0)) ∨
       (∃ j : Nat, j ≤ ls.length ∧ nx = i + j + 2 ∧ ls.length - j ≠ 1))))

theorem rd_drop (l : List Int) (a : Nat) (i : Int) (h : (a : Int) ≤ i) : rd (l.drop a) (i - a) = rd l i := by
  unfold rd
  rw [List.getD_eq_getElem?_getD, List.getD_eq_getElem?_getD, List.getElem?_drop]
  congr 2; omega
theorem take_head (l : List Int) (i : Int) (h0 : 0 ≤ i) (h : i < l.length) (n : Nat) : (l.drop i.toNat).take (n + 1) = rd l i :: ((l.drop i.toNat).drop 1).take n := by
  have hi : i.toNat < l.length := by omega
  rw [List.drop_eq_getElem_cons hi, List.take_succ_cons, List.drop_succ_cons, List.drop_zero]
  unfold rd
  rw [List.getD_eq_getElem?_getD, List.getElem?_eq_getElem hi]; rfl

theorem take_two (l : List Int) (i : Int) (h0 : 0 ≤ i) (h : i + 1 < l.length) : (l.drop i.toNat).take (2 : Int).toNat = [rd l i, rd l (i + 1)] := by
  rw [show (2 : Int).toNat = 1 + 1 from rfl, take_head l i h0 (by omega), List.drop_drop, show i.toNat + 1 = (i + 1).toNat by omega, take_head l (i + 1) (by omega) h]
  rfl

theorem rd_loop {l : List Int} (hb : bytesB l = true) (hl : l.length ≤ 140737488351232) {at_ : Int} (ha0 : 0 ≤ at_) (ha1 : at_ ≤ l.length) : ∀ (M : Nat) (out : List Int) (part i behind : Int),
    bytesB out = true → out.length ≤ 254 → 0 ≤ i → i ≤ l.length → 0 ≤ part → part ≤ l.length → part.toNat + (256 - out.length) ≤ M →
    ∃ r, (∀ k, M < k → wire_Read.l0 k l at_ out part i behind = some r) ∧ RdQ l at_ M out i behind r := by
  intro M
  induction M with
  | zero => intro out part i behind _ _ _ _ _ _ _; omega
  | succ M ih =>
    intro out part i behind hob hol h0 h1 hp0 hp1 hM
    by_cases hend : i = l.length
    · refine ⟨(⟨#[]⟩, 0, 4, (l.length : Int)), fun k hk => ?_, .inl ⟨by simp, rfl, rfl, by show 0 ≤ (l.length : Int); omega, by show (l.length : Int) ≤ l.length; omega⟩⟩
      obtain ⟨k, rfl⟩ : ∃ m, k = m + 1 := ⟨k - 1, by omega⟩
      rw [wire_Read.l0, if_pos (by omega)]
    have hrb := rd_byte hb i
    have hw : wrap64 (rd l i) = rd l i := w64 (by omega) (by omega)
    by_cases hz : rd l i = 0
    · by_cases hbe : behind < 0
      · refine ⟨(strOfNums (out ++ [0]), i + 1, 0, 0), fun k hk => ?_, .inr ⟨[], i + 1, .nil, rfl, by simpa using hol, by simp, by omega, fun _ => ⟨by omega, by omega, by simp only [List.length_nil]; omega, .inl ⟨by simp, ?_⟩⟩⟩⟩
        · obtain ⟨k, rfl⟩ : ∃ m, k = m + 1 := ⟨k - 1, by omega⟩
          rw [wire_Read.l0, if_neg (by omega), if_pos h0, if_pos (by omega), hw, if_pos hz, if_pos hbe, if_pos (by omega), w64 (by omega) (by omega)]
        · intro k a0 p2 a hk ha
          obtain ⟨k, rfl⟩ : ∃ m, k = m + 1 := ⟨k - 1, by omega⟩
          rw [wire_Read.l0, if_neg (by simp; omega), if_pos (by omega), if_pos (by simp; omega), rd_drop l a i ha, hw, if_pos hz, if_pos (by decide), if_pos (by omega), w64 (by omega) (by omega)]
          simp
          omega
      · refine ⟨(strOfNums (out ++ [0]), behind, 0, 0), fun k hk => ?_, .inr ⟨[], behind, .nil, rfl, by simpa using hol, by simp, fun _ => rfl, fun h => absurd h hbe⟩⟩
        obtain ⟨k, rfl⟩ : ∃ m, k = m + 1 := ⟨k - 1, by omega⟩
        rw [wire_Read.l0, if_neg (by omega), if_pos h0, if_pos (by omega), hw, if_pos hz, if_neg hbe, if_pos (by omega)]
    by_cases hptr : rd l i ≥ 192
    · by_cases hsh : (l.length : Int) < i + 2
      · refine ⟨(⟨#[]⟩, 0, 4, (l.length : Int)), fun k hk => ?_, .inl ⟨by simp, rfl, rfl, by show 0 ≤ (l.length : Int); omega, by show (l.length : Int) ≤ l.length; omega⟩⟩
        obtain ⟨k, rfl⟩ : ∃ m, k = m + 1 := ⟨k - 1, by omega⟩
        rw [wire_Read.l0, if_neg (by omega), if_pos h0, if_pos (by omega), hw, if_neg hz, if_pos hptr, get16_of (get_short hb (.inl rfl) (by omega) h0 h1 hsh)]
        rfl
      have hg := get16_of (get_ok (a := i) (s := 2) hb (.inl rfl) (by omega) h0 (by omega))
      obtain ⟨n, hn⟩ : ∃ n, n = beVal ((l.drop i.toNat).take (2 : Int).toNat) := ⟨_, rfl⟩
      rw [← hn] at hg
      have hnr : 0 ≤ n ∧ n < 65536 := by
        rw [hn, take_two l i h0 (by omega)]
        have r1 := rd_byte hb i
        have r2 := rd_byte hb (i + 1)
        simp only [beVal, List.foldl_cons, List.foldl_nil]
        omega
      have hand := and14 hnr.1 (by omega : n < 9223372036854775808)
      by_cases hloop : n % 16384 ≥ part
      · refine ⟨(⟨#[]⟩, 0, 150, i), fun k hk => ?_, .inl ⟨by simp, rfl, rfl, by show 0 ≤ i; omega, by show i ≤ l.length; omega⟩⟩
        obtain ⟨k, rfl⟩ : ∃ m, k = m + 1 := ⟨k - 1, by omega⟩
        rw [wire_Read.l0, if_neg (by omega), if_pos h0, if_pos (by omega), hw, if_neg hz, if_pos hptr, hg]
        simp only [Option.bind_some]
        rw [if_pos trivial, hand, if_pos hloop]
      obtain ⟨r, hr, hq⟩ := ih out (n % 16384) (n % 16384) (if behind < 0 then i + 2 else behind) hob hol (by omega) (by omega) (by omega) (by omega) (by omega)
      refine ⟨r, fun k hk => ?_, ?_⟩
      · obtain ⟨k, rfl⟩ : ∃ m, k = m + 1 := ⟨k - 1, by omega⟩
        rw [wire_Read.l0, if_neg (by omega), if_pos h0, if_pos (by omega), hw, if_neg hz, if_pos hptr, hg]
        simp only [Option.bind_some]
        rw [if_pos trivial, hand, if_neg hloop]
        have := hr k (by omega)
        by_cases hbe : behind < 0
        · rw [if_pos hbe] at this ⊢; exact this
        · rw [if_neg hbe] at this ⊢; exact this
      · rcases hq with hq | ⟨ls, nx, q1, q2, q3, q4, q5, q6⟩
        · exact .inl hq
        · refine .inr ⟨ls, nx, q1, q2, q3, q4, fun hbe => ?_, fun hbe => ?_⟩
          · rw [if_neg (by omega)] at q5; exact q5 hbe
          · rw [if_pos hbe] at q5
            have e := q5 (by omega)
            exact ⟨by omega, by omega, by omega, .inr ⟨0, by omega, by omega, by have := q1.ne_one; omega⟩⟩
    by_cases h63 : rd l i > 63
    · refine ⟨(⟨#[]⟩, 0, 4, i), fun k hk => ?_, .inl ⟨by simp, rfl, rfl, by show 0 ≤ i; omega, by show i ≤ l.length; omega⟩⟩
      obtain ⟨k, rfl⟩ : ∃ m, k = m + 1 := ⟨k - 1, by omega⟩
      rw [wire_Read.l0, if_neg (by omega), if_pos h0, if_pos (by omega), hw, if_neg hz, if_neg hptr, if_pos h63]
    have hw2 : wrap64 (rd l i + 1) = rd l i + 1 := w64 (by omega) (by omega)
    by_cases hsh : (l.length : Int) < i + (rd l i + 1)
    · refine ⟨(⟨#[]⟩, 0, 4, (l.length : Int)), fun k hk => ?_, .inl ⟨by simp, rfl, rfl, by show 0 ≤ (l.length : Int); omega, by show (l.length : Int) ≤ l.length; omega⟩⟩
      obtain ⟨k, rfl⟩ : ∃ m, k = m + 2 := ⟨k - 2, by omega⟩
      rw [wire_Read.l0, if_neg (by omega), if_pos h0, if_pos (by omega), hw, if_neg hz, if_neg hptr, if_neg h63, hw2, bytes_short hl h0 h1 (by omega) hsh]
      rfl
    have hbk : ∀ k, octet_Bytes.f (k + 1) l i (rd l i + 1) = _ := fun k => bytes_ok (k := k) hl h0 (by omega) (by omega)
    obtain ⟨lb, hlb⟩ : ∃ lb, lb = (l.drop i.toNat).take (rd l i + 1).toNat := ⟨_, rfl⟩
    rw [← hlb] at hbk
    have hlbl : (lb.length : Int) = rd l i + 1 := by rw [hlb]; simp; omega
    have hlbb : bytesB lb = true := by rw [hlb]; exact bytesB_take _ (bytesB_drop _ hb)
    have hlbf : ∃ x, lb = rd l i :: x := by
      rw [hlb, show (rd l i + 1).toNat = (rd l i).toNat + 1 by omega, take_head l i h0 (by omega)]; exact ⟨_, rfl⟩
    obtain ⟨x, hx⟩ := hlbf
    have hLab : Lab lb := by
      rw [hx]
      refine .one (by omega) (by omega) ?_
      have := congrArg List.length hx
      simp at this; omega
    by_cases hlong : ((out ++ lb).length : Int) > 254
    · refine ⟨(⟨#[]⟩, 0, 3, at_), fun k hk => ?_, .inl ⟨by simp, rfl, rfl, ha0, ha1⟩⟩
      obtain ⟨k, rfl⟩ : ∃ m, k = m + 2 := ⟨k - 2, by omega⟩
      rw [wire_Read.l0, if_neg (by omega), if_pos h0, if_pos (by omega), hw, if_neg hz, if_neg hptr, if_neg h63, hw2, hbk]
      simp only [Option.bind_some]
      rw [if_pos trivial, if_pos (by omega), if_pos hlong]
    simp only [List.length_append] at hlong
    obtain ⟨r, hr, hq⟩ := ih (out ++ lb) part (i + (rd l i + 1)) behind (bytesB_append.2 ⟨hob, hlbb⟩) (by simp; omega) (by omega) (by omega) hp0 hp1 (by simp; omega)
    refine ⟨r, fun k hk => ?_, ?_⟩
    · obtain ⟨k, rfl⟩ : ∃ m, k = m + 2 := ⟨k - 2, by omega⟩
      rw [wire_Read.l0, if_neg (by omega), if_pos h0, if_pos (by omega), hw, if_neg hz, if_neg hptr, if_neg h63, hw2, hbk]
      simp only [Option.bind_some]
      rw [if_pos trivial, if_pos (by omega), if_neg (by simp only [List.length_append]; omega)]
      exact hr _ (by omega)
    · rcases hq with hq | ⟨ls, nx, q1, q2, q3, q4, q5, q6⟩
      · exact .inl hq
      · simp only [List.length_append] at q3
        refine .inr ⟨lb ++ ls, nx, hLab.append q1, bytesB_append.2 ⟨hlbb, q2⟩, by simp only [List.length_append]; omega, by rw [q4, List.append_assoc, List.append_assoc, List.append_assoc, List.append_assoc], q5, fun hbe => ?_⟩
        obtain ⟨g1, g2, g3, g4⟩ := q6 hbe
        refine ⟨by omega, g2, by simp only [List.length_append]; omega, ?_⟩
        rcases g4 with ⟨g5, g6⟩ | ⟨j, g5, g6, g7⟩
        · refine .inl ⟨by simp only [List.length_append]; omega, fun k a0 p2 a hk ha => ?_⟩
          obtain ⟨k, rfl⟩ : ∃ m, k = m + 2 := ⟨k - 2, by omega⟩
          have hlen : ((l.drop a).length : Int) = l.length - a := by simp; omega
          have hbk2 : octet_Bytes.f (k + 1) (l.drop a) (i - a) (rd l i + 1) = some (lb, i - a + (rd l i + 1), 0, 0) := by
            rw [bytes_ok (by omega) (by omega) (by omega) (by omega), List.drop_drop, hlb]
            congr 4; omega
          rw [wire_Read.l0, if_neg (by omega), if_pos (by omega), if_pos (by omega), rd_drop l a i ha, hw, if_neg hz, if_neg hptr, if_neg h63, hw2, hbk2]
          simp only [Option.bind_some]
          rw [if_pos trivial, if_pos (by omega), if_neg (by simp only [List.length_append]; omega)]
          have := g6 (k + 1) a0 p2 a (by omega) (by omega)
          rw [show i - a + (rd l i + 1) = i + (rd l i + 1) - a by omega, this]
          simp
        · exact .inr ⟨lb.length + j, by simp only [List.length_append]; omega, by simp only [Int.natCast_add]; omega, by simp only [List.length_append]; omega⟩
end Go.Proofs.Ytjjbhpbmfpodeaa.PB
