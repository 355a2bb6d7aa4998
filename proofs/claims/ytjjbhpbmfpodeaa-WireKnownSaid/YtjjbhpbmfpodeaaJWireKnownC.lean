/- A law of the document, proved of the program: its own texts (plain functions, the walks, plain lemmas, the row), one behind the other. Conditions: those in the theorems. Part 3 of 3. Laid by the session's program wip/merge.py. -/
import Derived.Test.YtjjbhpbmfpodeaaRows
import Derived.Test.YtjjbhpbmfpodeaaProg
import Derived.Below
import Derived.Deep.Draws
import Derived.Deep.AppendLies
import Derived.Maps.AppendAt
import Derived.OwnWalk
import Derived.Laws.BytesArg
import Derived.Laws.MakeOwn
import Derived.Laws.OwnMore
import Derived.Deep.OwnRows
import Derived.Tactics
import Derived.Lib.ConvBytes
import Derived.Laws.Slices
import Derived.WalkKit
import Derived.KernelRfl
import Derived.RowKit3
import Derived.Deep.LoopGhost
import Derived.Deep.QuietTactic
import Derived.BigQuiet
import Derived.WideLaws
import Derived.Deep.DeepCutAuto
import Derived.Deep.CutBlock
import Derived.Deep.RegionHeld3
import Derived.Laws.Rows
import Derived.Lib.AppendStr
import Derived.ArgAppend
import Derived.Laws.IdiomCopy
import Derived.OrdersHeld
import Derived.Laws.BitsLemmas
import Derived.RowKit
import Derived.Test.YtjjbhpbmfpodeaaWWords
import Derived.Test.YtjjbhpbmfpodeaaWLast
import Derived.Test.YtjjbhpbmfpodeaaWTab
import Derived.Test.YtjjbhpbmfpodeaaWFour
import Derived.Test.YtjjbhpbmfpodeaaWQPut
import Derived.Test.YtjjbhpbmfpodeaaWApart
import Derived.Test.YtjjbhpbmfpodeaaWArr
import Derived.Test.YtjjbhpbmfpodeaaWZeros
import Derived.Test.YtjjbhpbmfpodeaaWFoot
import Derived.Test.YtjjbhpbmfpodeaaWKept
import Derived.Test.YtjjbhpbmfpodeaaWShare
import Derived.Test.YtjjbhpbmfpodeaaWN
import Derived.Test.YtjjbhpbmfpodeaaWFootNe
import Derived.Test.YtjjbhpbmfpodeaaWAt
import Derived.Test.YtjjbhpbmfpodeaaWEqStruct
import Derived.Test.YtjjbhpbmfpodeaaWRepsOne
import Derived.Test.YtjjbhpbmfpodeaaWInv
import Derived.Test.YtjjbhpbmfpodeaaWInvWords
import Derived.Test.YtjjbhpbmfpodeaaWGuard
import Derived.Test.YtjjbhpbmfpodeaaWNEv
import Derived.Test.YtjjbhpbmfpodeaaWMore
import Derived.RangeFuncWrites
import Derived.RangeFuncLeaves
import Derived.RangeFuncBox
import Derived.Deep.WholeRow
import Derived.Deep.RegionHeld
import Derived.Laws.CopyRow
import Derived.OwnWalkIn
import Derived.TacticsInMore
import Derived.LoopNIn
import Derived.LoopIn
import Derived.Sort.QuietIn
import Derived.Maps.OwnIn
import Derived.Maps.Views
import Derived.Sort.MapsRangeIn
import Derived.StringKeys
import Derived.Recover
import Derived.Laws.Panics
import Derived.OpenShut
import Derived.Shelf.Abstract
import Derived.Shelf.RegionOpen
import Derived.Lib.AtoiErrMem
import Derived.WalkMore
import Derived.Lib.SlBytesConst
import Derived.ProofKit
import Derived.JoinedOf
import Derived.ShutString
import Derived.ChangeOld
import Derived.SizedLaws
import Derived.Test.YtjjbhpbmfpodeaaWSized
import Derived.Test.YtjjbhpbmfpodeaaJWireKnownA
import Derived.Test.YtjjbhpbmfpodeaaJWireKnownB
section
namespace Go.Proofs.Ytjjbhpbmfpodeaa.PB
open Go.RowKit Go.Proofs.Ytjjbhpbmfpodeaa.X Go.Proofs.YtjjbhpbmfpodeaaW.PrintWords Go.Proofs.YtjjbhpbmfpodeaaW.PrintLast
set_option linter.unusedVariables false
set_option linter.unusedSimpArgs false

/-- What the loop of wire.Read tells from (out, i, behind) on. -/
def RdQ (l : List Int) (at_ : Int) (M : Nat) (out : List Int) (i behind : Int) (r : ByteArray × Int × Int × Int) : Prop :=
  (r.2.2.1 ≠ 0 ∧ r.1 = ⟨#[]⟩ ∧ r.2.1 = 0 ∧ 0 ≤ r.2.2.2 ∧ r.2.2.2 ≤ l.length) ∨
  (∃ (ls : List Int) (nx : Int), Lab ls ∧ bytesB ls = true ∧ out.length + ls.length ≤ 254 ∧ r = (strOfNums (out ++ ls ++ [0]), nx, 0, 0) ∧ (0 ≤ behind → nx = behind) ∧
    (behind < 0 → i < nx ∧ nx ≤ l.length ∧ nx ≤ i + ls.length + 2 ∧
      ((nx = i + ls.length + 1 ∧ ∀ (k : Nat) (a0 p2 : Int) (a : Nat), M < k → (a : Int) ≤ i → wire_Read.l0 k (l.drop a) a0 out p2 (i - a) (-1) = some (strOfNums (out ++ ls ++ [0]), nx - a, 0, 0)) ∨
       (∃ j : Nat, j ≤ ls.length ∧ nx = i + j + 2 ∧ ls.length - j ≠ 1))))

theorem rd_drop (l : List Int) (a : Nat) (i : Int) (h : (a : Int) ≤ i) : rd (l.drop a) (i - a) = rd l i := by
  unfold rd
  rw [List.getD_eq_getElem?_getD, List.getD_eq_getElem?_getD, List.getElem?_drop]
  congr 2; omega
theorem take_head (l : List Int) (i : Int) (h0 : 0 ≤ i) (h : i < l.length) (n : Nat) : (l.drop i.toNat).take (n + 1) = rd l i :: ((l.drop i.toNat).drop 1).take n := by
  have hi : i.toNat < l.length := by omega
  rw [List.drop_eq_getElem_cons hi, List.take_succ_cons, List.drop_succ_cons, List.drop_zero]
  unfold rd
  rw [List.getD_eq_getElem?_getD, List.getElem?_eq_getElem hi]; rfl

theorem take_two (l : List Int) (i : Int) (h0 : 0 ≤ i) (h : i + 1 < l.length) : (l.drop i.toNat).take (2 : Int).toNat = [rd l i, rd l (i + 1)] := by
  rw [show (2 : Int).toNat = 1 + 1 from rfl, take_head l i h0 (by omega), List.drop_drop, show i.toNat + 1 = (i + 1).toNat by omega, take_head l (i + 1) (by omega) h]
  rfl

theorem rd_loop {l : List Int} (hb : bytesB l = true) (hl : l.length ≤ 140737488351232) {at_ : Int} (ha0 : 0 ≤ at_) (ha1 : at_ ≤ l.length) : ∀ (M : Nat) (out : List Int) (part i behind : Int),
    bytesB out = true → out.length ≤ 254 → 0 ≤ i → i ≤ l.length → 0 ≤ part → part ≤ l.length → part.toNat + (256 - out.length) ≤ M →
    ∃ r, (∀ k, M < k → wire_Read.l0 k l at_ out part i behind = some r) ∧ RdQ l at_ M out i behind r := by
  intro M
  induction M with
  | zero => intro out part i behind _ _ _ _ _ _ _; omega
  | succ M ih =>
    intro out part i behind hob hol h0 h1 hp0 hp1 hM
    by_cases hend : i = l.length
    · refine ⟨(⟨#[]⟩, 0, 4, (l.length : Int)), fun k hk => ?_, .inl ⟨by simp, rfl, rfl, by show 0 ≤ (l.length : Int); omega, by show (l.length : Int) ≤ l.length; omega⟩⟩
      obtain ⟨k, rfl⟩ : ∃ m, k = m + 1 := ⟨k - 1, by omega⟩
      rw [wire_Read.l0, if_pos (by omega)]
    have hrb := rd_byte hb i
    have hw : wrap64 (rd l i) = rd l i := w64 (by omega) (by omega)
    by_cases hz : rd l i = 0
    · by_cases hbe : behind < 0
      · refine ⟨(strOfNums (out ++ [0]), i + 1, 0, 0), fun k hk => ?_, .inr ⟨[], i + 1, .nil, rfl, by simpa using hol, by simp, by omega, fun _ => ⟨by omega, by omega, by simp only [List.length_nil]; omega, .inl ⟨by simp, ?_⟩⟩⟩⟩
        · obtain ⟨k, rfl⟩ : ∃ m, k = m + 1 := ⟨k - 1, by omega⟩
          rw [wire_Read.l0, if_neg (by omega), if_pos h0, if_pos (by omega), hw, if_pos hz, if_pos hbe, if_pos (by omega), w64 (by omega) (by omega)]
        · intro k a0 p2 a hk ha
          obtain ⟨k, rfl⟩ : ∃ m, k = m + 1 := ⟨k - 1, by omega⟩
          rw [wire_Read.l0, if_neg (by simp; omega), if_pos (by omega), if_pos (by simp; omega), rd_drop l a i ha, hw, if_pos hz, if_pos (by decide), if_pos (by omega), w64 (by omega) (by omega)]
          simp
          omega
      · refine ⟨(strOfNums (out ++ [0]), behind, 0, 0), fun k hk => ?_, .inr ⟨[], behind, .nil, rfl, by simpa using hol, by simp, fun _ => rfl, fun h => absurd h hbe⟩⟩
        obtain ⟨k, rfl⟩ : ∃ m, k = m + 1 := ⟨k - 1, by omega⟩
        rw [wire_Read.l0, if_neg (by omega), if_pos h0, if_pos (by omega), hw, if_pos hz, if_neg hbe, if_pos (by omega)]
    by_cases hptr : rd l i ≥ 192
    · by_cases hsh : (l.length : Int) < i + 2
      · refine ⟨(⟨#[]⟩, 0, 4, (l.length : Int)), fun k hk => ?_, .inl ⟨by simp, rfl, rfl, by show 0 ≤ (l.length : Int); omega, by show (l.length : Int) ≤ l.length; omega⟩⟩
        obtain ⟨k, rfl⟩ : ∃ m, k = m + 1 := ⟨k - 1, by omega⟩
        rw [wire_Read.l0, if_neg (by omega), if_pos h0, if_pos (by omega), hw, if_neg hz, if_pos hptr, get16_of (get_short hb (.inl rfl) (by omega) h0 h1 hsh)]
        rfl
      have hg := get16_of (get_ok (a := i) (s := 2) hb (.inl rfl) (by omega) h0 (by omega))
      obtain ⟨n, hn⟩ : ∃ n, n = beVal ((l.drop i.toNat).take (2 : Int).toNat) := ⟨_, rfl⟩
      rw [← hn] at hg
      have hnr : 0 ≤ n ∧ n < 65536 := by
        rw [hn, take_two l i h0 (by omega)]
        have r1 := rd_byte hb i
        have r2 := rd_byte hb (i + 1)
        simp only [beVal, List.foldl_cons, List.foldl_nil]
        omega
      have hand := and14 hnr.1 (by omega : n < 9223372036854775808)
      by_cases hloop : n % 16384 ≥ part
      · refine ⟨(⟨#[]⟩, 0, 150, i), fun k hk => ?_, .inl ⟨by simp, rfl, rfl, by show 0 ≤ i; omega, by show i ≤ l.length; omega⟩⟩
        obtain ⟨k, rfl⟩ : ∃ m, k = m + 1 := ⟨k - 1, by omega⟩
        rw [wire_Read.l0, if_neg (by omega), if_pos h0, if_pos (by omega), hw, if_neg hz, if_pos hptr, hg]
        simp only [Option.bind_some]
        rw [if_pos trivial, hand, if_pos hloop]
      obtain ⟨r, hr, hq⟩ := ih out (n % 16384) (n % 16384) (if behind < 0 then i + 2 else behind) hob hol (by omega) (by omega) (by omega) (by omega) (by omega)
      refine ⟨r, fun k hk => ?_, ?_⟩
      · obtain ⟨k, rfl⟩ : ∃ m, k = m + 1 := ⟨k - 1, by omega⟩
        rw [wire_Read.l0, if_neg (by omega), if_pos h0, if_pos (by omega), hw, if_neg hz, if_pos hptr, hg]
        simp only [Option.bind_some]
        rw [if_pos trivial, hand, if_neg hloop]
        have := hr k (by omega)
        by_cases hbe : behind < 0
        · rw [if_pos hbe] at this ⊢; exact this
        · rw [if_neg hbe] at this ⊢; exact this
      · rcases hq with hq | ⟨ls, nx, q1, q2, q3, q4, q5, q6⟩
        · exact .inl hq
        · refine .inr ⟨ls, nx, q1, q2, q3, q4, fun hbe => ?_, fun hbe => ?_⟩
          · rw [if_neg (by omega)] at q5; exact q5 hbe
          · rw [if_pos hbe] at q5
            have e := q5 (by omega)
            exact ⟨by omega, by omega, by omega, .inr ⟨0, by omega, by omega, by have := q1.ne_one; omega⟩⟩
    by_cases h63 : rd l i > 63
    · refine ⟨(⟨#[]⟩, 0, 4, i), fun k hk => ?_, .inl ⟨by simp, rfl, rfl, by show 0 ≤ i; omega, by show i ≤ l.length; omega⟩⟩
      obtain ⟨k, rfl⟩ : ∃ m, k = m + 1 := ⟨k - 1, by omega⟩
      rw [wire_Read.l0, if_neg (by omega), if_pos h0, if_pos (by omega), hw, if_neg hz, if_neg hptr, if_pos h63]
    have hw2 : wrap64 (rd l i + 1) = rd l i + 1 := w64 (by omega) (by omega)
    by_cases hsh : (l.length : Int) < i + (rd l i + 1)
    · refine ⟨(⟨#[]⟩, 0, 4, (l.length : Int)), fun k hk => ?_, .inl ⟨by simp, rfl, rfl, by show 0 ≤ (l.length : Int); omega, by show (l.length : Int) ≤ l.length; omega⟩⟩
      obtain ⟨k, rfl⟩ : ∃ m, k = m + 2 := ⟨k - 2, by omega⟩
      rw [wire_Read.l0, if_neg (by omega), if_pos h0, if_pos (by omega), hw, if_neg hz, if_neg hptr, if_neg h63, hw2, bytes_short hl h0 h1 (by omega) hsh]
      rfl
    have hbk : ∀ k, octet_Bytes.f (k + 1) l i (rd l i + 1) = _ := fun k => bytes_ok (k := k) hl h0 (by omega) (by omega)
    obtain ⟨lb, hlb⟩ : ∃ lb, lb = (l.drop i.toNat).take (rd l i + 1).toNat := ⟨_, rfl⟩
    rw [← hlb] at hbk
    have hlbl : (lb.length : Int) = rd l i + 1 := by rw [hlb]; simp; omega
    have hlbb : bytesB lb = true := by rw [hlb]; exact bytesB_take _ (bytesB_drop _ hb)
    have hlbf : ∃ x, lb = rd l i :: x := by
      rw [hlb, show (rd l i + 1).toNat = (rd l i).toNat + 1 by omega, take_head l i h0 (by omega)]; exact ⟨_, rfl⟩
    obtain ⟨x, hx⟩ := hlbf
    have hLab : Lab lb := by
      rw [hx]
      refine .one (by omega) (by omega) ?_
      have := congrArg List.length hx
      simp at this; omega
    by_cases hlong : ((out ++ lb).length : Int) > 254
    · refine ⟨(⟨#[]⟩, 0, 3, at_), fun k hk => ?_, .inl ⟨by simp, rfl, rfl, ha0, ha1⟩⟩
      obtain ⟨k, rfl⟩ : ∃ m, k = m + 2 := ⟨k - 2, by omega⟩
      rw [wire_Read.l0, if_neg (by omega), if_pos h0, if_pos (by omega), hw, if_neg hz, if_neg hptr, if_neg h63, hw2, hbk]
      simp only [Option.bind_some]
      rw [if_pos trivial, if_pos (by omega), if_pos hlong]
    simp only [List.length_append] at hlong
    obtain ⟨r, hr, hq⟩ := ih (out ++ lb) part (i + (rd l i + 1)) behind (bytesB_append.2 ⟨hob, hlbb⟩) (by simp; omega) (by omega) (by omega) hp0 hp1 (by simp; omega)
    refine ⟨r, fun k hk => ?_, ?_⟩
    · obtain ⟨k, rfl⟩ : ∃ m, k = m + 2 := ⟨k - 2, by omega⟩
      rw [wire_Read.l0, if_neg (by omega), if_pos h0, if_pos (by omega), hw, if_neg hz, if_neg hptr, if_neg h63, hw2, hbk]
      simp only [Option.bind_some]
      rw [if_pos trivial, if_pos (by omega), if_neg (by simp only [List.length_append]; omega)]
      exact hr _ (by omega)
    · rcases hq with hq | ⟨ls, nx, q1, q2, q3, q4, q5, q6⟩
      · exact .inl hq
      · simp only [List.length_append] at q3
        refine .inr ⟨lb ++ ls, nx, hLab.append q1, bytesB_append.2 ⟨hlbb, q2⟩, by simp only [List.length_append]; omega, by rw [q4, List.append_assoc, List.append_assoc, List.append_assoc, List.append_assoc], q5, fun hbe => ?_⟩
        obtain ⟨g1, g2, g3, g4⟩ := q6 hbe
        refine ⟨by omega, g2, by simp only [List.length_append]; omega, ?_⟩
        rcases g4 with ⟨g5, g6⟩ | ⟨j, g5, g6, g7⟩
        · refine .inl ⟨by simp only [List.length_append]; omega, fun k a0 p2 a hk ha => ?_⟩
          obtain ⟨k, rfl⟩ : ∃ m, k = m + 2 := ⟨k - 2, by omega⟩
          have hlen : ((l.drop a).length : Int) = l.length - a := by simp; omega
          have hbk2 : octet_Bytes.f (k + 1) (l.drop a) (i - a) (rd l i + 1) = some (lb, i - a + (rd l i + 1), 0, 0) := by
            rw [bytes_ok (by omega) (by omega) (by omega) (by omega), List.drop_drop, hlb]
            congr 4; omega
          rw [wire_Read.l0, if_neg (by omega), if_pos (by omega), if_pos (by omega), rd_drop l a i ha, hw, if_neg hz, if_neg hptr, if_neg h63, hw2, hbk2]
          simp only [Option.bind_some]
          rw [if_pos trivial, if_pos (by omega), if_neg (by simp only [List.length_append]; omega)]
          have := g6 (k + 1) a0 p2 a (by omega) (by omega)
          rw [show i - a + (rd l i + 1) = i + (rd l i + 1) - a by omega, this]
          simp
        · exact .inr ⟨lb.length + j, by simp only [List.length_append]; omega, by simp only [Int.natCast_add]; omega, by simp only [List.length_append]; omega⟩
end Go.Proofs.Ytjjbhpbmfpodeaa.PB
end
section
namespace Go.Proofs.Ytjjbhpbmfpodeaa.PB
open Go.RowKit Go.Proofs.Ytjjbhpbmfpodeaa.X Go.Proofs.YtjjbhpbmfpodeaaW.PrintWords Go.Proofs.YtjjbhpbmfpodeaaW.PrintLast
set_option linter.unusedVariables false

theorem leO_le {α : Type} {f : Nat → Option α} (h : ∀ k, LeO (f k) (f (k + 1))) {k m : Nat} (hk : k ≤ m) : LeO (f k) (f m) := by
  induction hk with
  | refl => exact LeO.refl _
  | step _ ih => exact ih.trans (h _)

theorem read_at {l : List Int} (hb : bytesB l = true) (hl : l.length ≤ 140737488351232) {a : Int} (h0 : 0 ≤ a) (h1 : a ≤ l.length) :
    ∃ r, (∀ k, a.toNat + 257 < k → wire_Read.f k l a = some r) ∧ RdQ l a (a.toNat + 256) [] a (-1) r := by
  obtain ⟨r, hr, hq⟩ := rd_loop hb hl h0 h1 (a.toNat + 256) [] a a (-1) rfl (by simp) h0 h1 h0 h1 (by simp)
  refine ⟨r, fun k hk => ?_, hq⟩
  obtain ⟨k, rfl⟩ : ∃ m, k = m + 1 := ⟨k - 1, by omega⟩
  unfold wire_Read.f
  rw [if_neg (by omega), decide_eq_false (by omega), wire_Read.j0, if_neg (by decide)]
  exact hr k (by omega)

theorem read_awake : wire_Read.f 12 [1, 97, 0, 1, 98, 192, 0] 3 = some (strOfNums [1, 98, 1, 97, 0], 7, 0, 0) := by decide +kernel
theorem awake5 {k : Nat} (hk : 12 ≤ k) : ostiarylaw05_awake.f k = some true := by
  refine leO_le ostiarylaw05_awake.mono hk _ ?_
  unfold ostiarylaw05_awake.f
  rw [read_awake]
  simp only [Option.bind_some]
  rw [ByteArray.toList_eq, strOfNums_data]
  rfl

theorem str_toList_eq {a b : ByteArray} (h : a.toList = b.toList) : a = b := by
  apply ByteArray.ext
  apply Array.toList_inj.1
  rwa [ByteArray.toList_eq, ByteArray.toList_eq] at h
end Go.Proofs.Ytjjbhpbmfpodeaa.PB
namespace Go.Proofs.Ytjjbhpbmfpodeaa.Pure
open Go.RowKit Go.Proofs.Ytjjbhpbmfpodeaa.X Go.Proofs.Ytjjbhpbmfpodeaa.PB Go.Proofs.YtjjbhpbmfpodeaaW.PrintWords Go.Proofs.YtjjbhpbmfpodeaaW.PrintLast

theorem WireEnds : ostiarylaw05_WireEnds.Pure := by
  intro l a1 hmax hl hwf ha
  have hb := bytesB_of hwf
  refine ⟨5000, ?_⟩
  unfold ostiarylaw05_WireEnds.f
  rw [awake5 (by omega)]
  simp only [Option.bind_some]
  by_cases hbig : (l.length : Int) > 2000
  · rw [if_pos hbig]
  rw [if_neg hbig, w64 (by omega) (by omega), pick_ok ha (by omega)]
  simp only [Option.bind_some]
  obtain ⟨hp0, hp1⟩ := pick_range a1 (n := (l.length : Int) + 1) (by omega)
  obtain ⟨p, hp⟩ : ∃ p, p = pick a1 ((l.length : Int) + 1) := ⟨_, rfl⟩
  rw [← hp] at hp0 hp1 ⊢
  obtain ⟨r, hr, hq⟩ := read_at hb (by omega) hp0 (by omega)
  rw [hr 5000 (by omega)]
  simp only [Option.bind_some]
  rcases hq with ⟨e1, e2, e3, e4, e5⟩ | ⟨ls, nx, q1, q2, q3, q4, q5, q6⟩
  · rw [if_neg e1, if_pos trivial, e2, if_pos (by rw [ByteArray.toList_eq]), if_pos e3, if_pos e4, decide_eq_true e5]
  · obtain ⟨g1, g2, g3, g4⟩ := q6 (by decide)
    simp only [List.length_nil] at q3
    rw [q4]
    simp only [List.nil_append]
    rw [if_pos trivial, check_ok q1 q2 (by omega)]
    simp only [Option.bind_some]
    rw [if_pos trivial, if_neg (by omega), if_neg (by omega), w64 (by omega) (by omega), decide_eq_false (by omega), ostiarylaw05_WireEnds.j0, if_neg (by decide), w64 (by omega) (by omega), if_pos (by omega), if_pos (by omega)]
    split
    · rw [w64 (by omega) (by omega), strOfNums_size]
      simp only [List.length_append, List.length_cons, List.length_nil]
      split
      · rename_i hlen
        rw [if_pos (by omega)]
        rcases g4 with ⟨g5, g6⟩ | ⟨j, g5, g6, g7⟩
        · have hs := g6 4998 0 0 p.toNat (by omega) (by omega)
          have hp2 : p - (p.toNat : Int) = 0 := by omega
          rw [hp2] at hs
          have hf : wire_Read.f 4999 (l.drop p.toNat) 0 = some (strOfNums (ls ++ [0]), nx - p, 0, 0) := by
            unfold wire_Read.f
            rw [if_neg (by decide), decide_eq_false (by omega), wire_Read.j0, if_neg (by decide), hs, show (p.toNat : Int) = p by omega]
            rfl
          rw [hf]
          simp
        · omega
      · rfl
    · rfl
end Go.Proofs.Ytjjbhpbmfpodeaa.Pure
end
section
namespace Go.Proofs.Ytjjbhpbmfpodeaa.X
open Go.RowKit Go.Maps Go.Proofs.Ytjjbhpbmfpodeaa.PB Go.Proofs.YtjjbhpbmfpodeaaW.PrintWords Go.Proofs.YtjjbhpbmfpodeaaW.PrintLast Go.Proofs.YtjjbhpbmfpodeaaW.PrintMore
set_option linter.unusedVariables false
set_option linter.unusedSimpArgs false
attribute [local go_sem] Oper.semAt_some

theorem C_conv {w : World} {b : Nat} {xs : List Int} (h : Conv w b xs) (hl : xs.length ≤ 9223372036854775807) : Kd.C (Kd.int .u8) w (some ⟨b, 0, none⟩) xs.length xs := by
  refine Kd.C_of_reads (d := (0 : Int)) (h1 := fun _ => rfl) ⟨rfl, hl, fun _ => ⟨_, rfl, fun j hj => ?_⟩⟩
  have e : (⟨b, 0, none⟩ : Addr).add j = ⟨b, j, none⟩ := by simp [Addr.add] <;> omega
  rw [e, h.cell j hj]

theorem Full.cOf {w : World} {base : Nat} {A : Option Addr} {m c : Nat} {xs : List Int} (h : Full w base (.slice A m c) xs) : Kd.C (Kd.int .u8) w A xs.length xs := by
  obtain ⟨A', c', e, _, h2⟩ := h.reads
  cases e; exact h2

theorem Full.two {w : World} {base : Nat} {v : Value} {xs : List Int} (h : Full w base v xs) (h2 : xs.length = 2) : ∃ g z, v = .slice (some ⟨g, 0, none⟩) 2 (2 + z.length) ∧ w.heap[g]? = some (.cells (nums .u8 (xs ++ z)).toArray 5 (0, 0)) := by
  rcases h with ⟨rfl, rfl⟩ | ⟨g, zs, rfl, _, hg, _⟩
  · simp at h2
  · exact ⟨g, zs, by rw [h2], hg⟩

set_option maxHeartbeats 8000000 in
set_option maxRecDepth 100000 in
theorem ostiarylaw05_WireTwice.no_ (n : Nat) (hn : 5 ≤ n) (s : ByteArray) (c : Int) (hc : name_Check.f s = some c) (h0 : c ≠ 0) (a1 : Int) (w : World) :
    CallsIn Fence.wide n Try.prog 14 #[.string s, .int .i64 a1] w fun e w' => e = .returned (.bool true) ∧ Below w.heap.size w w' := by
  have h0b : (c != 0) = true := bne_iff_ne.2 h0
  have HC := Aside0.mk hc
  clear hc h0
  refine callsIn_of_wp Try.func14 rfl trivial ?_ rfl
  simp only [Try.ntmps14, List.size_toArray, List.length_cons, List.length_nil, Nat.reduceAdd, Nat.reduceSub, Array.replicate_succ, Array.replicate_zero, List.push_toArray, List.append_toArray, List.nil_append, List.cons_append]
  gi_wp2_with (first
    | (first | refine ⟨trivial, fun _ => by omega, ?_⟩ | refine ⟨trivial, ?_⟩); refine (callsIn_wide.2 (ostiarylaw05_awake.calls 12 true _ (awake5 (by omega)))).mono ?_; rintro e w1 ⟨rfl, hb1⟩; have HB1 := Aside0.mk hb1; clear hb1
    | (first | refine ⟨trivial, fun _ => by omega, ?_⟩ | refine ⟨trivial, ?_⟩); refine (wire_New.in_ (n - 1) (by omega) _).mono ?_; rintro e w2 ⟨rfl, hp2, hb2⟩; have HB2 := Aside0.mk (HB1.out.trans (hb2.mono HB1.out.size)); clear hb2 hp2
    | (first | refine ⟨trivial, fun _ => by omega, ?_⟩ | refine ⟨trivial, ?_⟩); refine (callsIn_wide.2 (name_Check.calls s c _ HC.out)).mono ?_; rintro e w3 ⟨rfl, hb3⟩; have HB3 := Aside0.mk (HB2.out.trans (hb3.mono HB2.out.size)); clear hb3)
  go_ret
  exact ⟨rfl, HB3.out⟩

set_option maxHeartbeats 16000000 in
set_option maxRecDepth 100000 in
theorem ostiarylaw05_WireTwice.yes (n : Nat) (hn : 5 ≤ n) (s : ByteArray) (hc : name_Check.f s = some 0) (a1 P : Int) (hp : ostiarykit_Pick.f a1 16001 = some P) (hp0 : 0 ≤ P) (hp1 : P ≤ 16000) (q Q : List Int) (hq : Lab q) (hqb : bytesB q = true) (hql : q.length ≤ 254) (hs : s = strOfNums (q ++ [0])) (hQ : Q = q ++ [0]) (T : List (ByteArray × Int)) (hT : T = tls 256 P q) (w : World) :
    CallsIn Fence.wide n Try.prog 14 #[.string s, .int .i64 a1] w fun e w' => e = .returned (.bool true) ∧ Below w.heap.size w w' := by
  have HC := Aside0.mk hc
  have HPK := Aside0.mk hp
  have HQ := Aside0.mk (And.intro hq (And.intro hqb hql))
  have HP0 := Aside0.mk hp0
  have HP1 := Aside0.mk hp1
  have HS : Aside0 (bytesOf s = Q) := ⟨by rw [hs, hQ, str_bytes (bytesB_append.2 ⟨hqb, by decide⟩)]⟩
  have HSN : Aside0 (s = strOfNums (q ++ [0])) := ⟨hs⟩
  have HSQ : Aside0 (strOfNums Q = s) := ⟨by rw [hs, hQ]⟩
  have HQL : Aside0 (Q.length = q.length + 1) := ⟨by rw [hQ]; simp⟩
  have H1 : Aside0 (packF ⟨[], 0⟩ P s 0 = (Q, 0, ⟨T, P + Q.length⟩)) := ⟨by rw [hs, pack_first hq hqb hql hp0 hp1, hQ, hT]; simp; omega⟩
  have HCN : Aside0 (name_Count.f s = some (T.length : Int)) := ⟨by rw [hs, hT]; exact count_name hq hqb hql P⟩
  have HLK : Aside0 (∀ s' r : List Int, Lab s' → Lab r → q = s' ++ r → r ≠ [] → ∃ t, lookL T (strOfNums (r ++ [0])) = some t) := ⟨fun s' r h1 h2 h3 h4 => by rw [hT, h3]; exact tls_look h1 r 256 P h2 h4 (by rw [← h3]; omega)⟩
  have hsl : s.size = Q.length := by rw [← bytesOf_len, HS.out]
  have hcv : ∀ W : World, (convert 9 22 (.string s)).run Try.prog W = .ok (.slice (some ⟨W.heap.size, 0, none⟩) Q.length (grownCap W Q.length 0 5)) (Lib.bytesWorld W 5 s) := fun W => by
    rw [← hsl]; exact Lib.run_convert_string_bytes W 9 22 5 s Try.underlying9 Try.underlying22 Try.underlying5
  have HCAP : Aside0 (∀ W : World, Q.length ≤ grownCap W Q.length 0 5) := ⟨fun W => grownCap_ge W _ _ _⟩
  have hwe : IntKind.i64.wrap (P + Q.length) = P + Q.length := IntWalk.i64_in _ (by have := HQL.out; omega)
  clear hc hp hq hqb hql hs hQ hT hsl hp0 hp1
  refine callsIn_of_wp Try.func14 rfl trivial ?_ rfl
  simp only [Try.ntmps14, List.size_toArray, List.length_cons, List.length_nil, Nat.reduceAdd, Nat.reduceSub, Array.replicate_succ, Array.replicate_zero, List.push_toArray, List.append_toArray, List.nil_append, List.cons_append]
  gi_wp2_with (first
    | (first | refine ⟨trivial, fun _ => by omega, ?_⟩ | refine ⟨trivial, ?_⟩); refine (callsIn_wide.2 (ostiarylaw05_awake.calls 12 true _ (awake5 (by omega)))).mono ?_; rintro e w1 ⟨rfl, hb1⟩; have HB1 := Aside0.mk hb1; clear hb1
    | (first | refine ⟨trivial, fun _ => by omega, ?_⟩ | refine ⟨trivial, ?_⟩); refine (wire_New.in_ (n - 1) (by omega) _).mono ?_; rintro e w2 ⟨rfl, hp2, hb2⟩; have HB2 := Aside0.mk (HB1.out.trans (hb2.mono HB1.out.size)); have HP2 := Aside0.mk hp2; clear hb2 hp2
    | (first | refine ⟨trivial, fun _ => by omega, ?_⟩ | refine ⟨trivial, ?_⟩); refine (callsIn_wide.2 (name_Check.calls s 0 _ HC.out)).mono ?_; rintro e w3 ⟨rfl, hb3⟩; have HB3 := Aside0.mk (HB2.out.trans (hb3.mono HB2.out.size)); have HP3 := Aside0.mk (HP2.out.below hb3); clear hb3
    | (first | refine ⟨trivial, fun _ => by omega, ?_⟩ | refine ⟨trivial, ?_⟩); refine (callsIn_wide.2 (ostiarykit_Pick.calls a1 16001 P _ HPK.out)).mono ?_; rintro e w4 ⟨rfl, nd, hw4⟩; have HB4 : Aside0 (Below w.heap.size w w4) := ⟨by rw [hw4]; exact pw_below_drewN HB3.out _⟩; have HP4 : Aside0 (Pk w4 _ _ 0 ⟨[], 0⟩) := ⟨by rw [hw4]; exact HP3.out.below (pw_below_drewN (Below.refl _ _) _)⟩; clear hw4
    | (first | refine ⟨trivial, fun _ => by omega, ?_⟩ | refine ⟨trivial, ?_⟩); refine ((show _ from H1.out ▸ Packer_Name.in_ (n - 1) (by omega) w4 HP4.out (by omega) P s 0 HC.out)).mono ?_; rintro e w5 ⟨v5, rfl, hf5, hp5, hd5⟩; obtain ⟨A5, c5, rfl, hc5, _⟩ := hf5.reads; have HC5 := Aside0.mk hc5; have HF5 := Aside0.mk hf5; have HP5 := Aside0.mk hp5; have HB5 := Aside0.mk (hd5.below HB4.out HB4.out.size HB1.out.size (by have := HB1.out.size; omega)); clear hc5 hf5 hp5 hd5
    | (first | refine ⟨trivial, fun _ => by omega, ?_⟩ | refine ⟨trivial, ?_⟩); refine (callsIn_wide.2 (ostiarykit_SameBytes.calls A5 c5 Q (some ⟨w5.heap.size, 0, none⟩) _ Q true _ (HF5.out.below (Lib.bytesWorld_below w5 5 s)).cOf HC5.out (C_conv (HS.out ▸ Conv.start w5 s) (by have := HQL.out; have := HQ.out.2.2; omega)) (HCAP.out _) (same_self Q))).mono ?_; rintro e w6 ⟨rfl, nd, hw6⟩; have HW6 : Aside0 (Below w5.heap.size w5 w6) := ⟨by rw [hw6]; exact pw_below_drewN (Lib.bytesWorld_below w5 5 s) _⟩; clear hw6; have HF6 := Aside0.mk (HF5.out.below HW6.out); have HP6 := Aside0.mk (HP5.out.below HW6.out); have HB6 := Aside0.mk (HB5.out.trans (HW6.out.mono HB5.out.size))
    | (first | refine ⟨trivial, fun _ => by omega, ?_⟩ | refine ⟨trivial, ?_⟩); refine (Packer_Known.in_ (n - 1) (by omega) _ HP6.out).mono ?_; rintro e w7 ⟨rfl, rfl⟩
    | (first | refine ⟨trivial, fun _ => by omega, ?_⟩ | refine ⟨trivial, ?_⟩); refine (callsIn_wide.2 (name_Count.calls s _ _ HCN.out)).mono ?_; rintro e w8 ⟨rfl, hb8⟩; have HF8 := Aside0.mk (HF6.out.below hb8); have HP8 := Aside0.mk (HP6.out.below hb8); have HB8 := Aside0.mk (HB6.out.trans (hb8.mono HB6.out.size)); clear hb8)
  gi_loopw [0, 9, 10] (fun nm e i wr => ∃ (s' r : List Int) (E I : Int) (nn : Nat), nm = .string (strOfNums (r ++ [0])) ∧ e = .int .i64 E ∧ i = .int .i64 I ∧ 0 ≤ I ∧ Aside0 ((r.length : Int) + 2 * I ≤ 254) ∧ Aside0 (Lab s' ∧ Lab r ∧ q = s' ++ r) ∧ Aside0 (0 ≤ E ∧ E ≤ 16300 + 2 * I) ∧ Aside0 (nn ≤ 256 + 256 * I.toNat) ∧
      Aside0 (Pk wr (w1.heap.size + 1) w1.heap.size nn ⟨T, E⟩) ∧ Aside0 (Full wr w4.heap.size (.slice A5 Q.length c5) Q) ∧ Aside0 (Below w.heap.size w wr))
    (fun nm _ _ _ => match nm with | .string s => s.size | _ => 0)
  case atStart =>
    exact ⟨[], q, _, 0, _, by rw [HSN.out], rfl, rfl, by omega, ⟨by have := HQ.out.2.2; omega⟩, ⟨.nil, HQ.out.1, rfl⟩, ⟨by have := HP0.out; have := HP1.out; have := HQ.out.2.2; have := HQL.out; omega⟩, ⟨by omega⟩, HP8, HF8, HB8⟩
  case round =>
    obtain ⟨s', r, E, I, nn, rfl, rfl, rfl, hI, HRI, HLab, HE, HNN, HPr, HFr, HBr⟩ := hrel
    have hlt : decide (I < 130) = true := decide_eq_true (by have := HRI.out; omega)
    have hwi : IntKind.i64.wrap (I + 1) = I + 1 := IntWalk.i64_in _ (by have := HRI.out; omega)
    have HI := Aside0.mk hI
    have HBQ : Aside0 (bytesB r = true) := ⟨by have h1 := HQ.out.2.1; rw [HLab.out.2.2] at h1; exact (bytesB_append.1 h1).2⟩
    have HRL : Aside0 (r.length ≤ 254) := ⟨by have := HRI.out; omega⟩
    have HCR : Aside0 (name_Check.f (strOfNums (r ++ [0])) = some 0) := ⟨check_ok HLab.out.2.1 HBQ.out HRL.out⟩
    obtain ⟨N, hN⟩ : ∃ N, N = strOfNums (r ++ [0]) := ⟨_, rfl⟩
    rw [← hN]
    have HN := Aside0.mk hN
    rw [← hN] at HCR
    clear hN hI
    by_cases hr : r = []
    · subst hr
      have H2 : Aside0 (packF ⟨T, E⟩ E N 0 = ([0], 0, ⟨T, E + 1⟩)) := ⟨by rw [HN.out]; exact pack_root HE.out.1 (by have := HE.out; have := HRI.out; omega)⟩
      have HPN : Aside0 (name_Parent.f N = some (⟨#[]⟩, false)) := ⟨by rw [HN.out]; exact parent_root⟩
      have hw1 : IntKind.i64.wrap (E + 1) = E + 1 := IntWalk.i64_in _ (by have := HE.out; have := HRI.out; omega)
      gi_wp2_with (first
        | (first | refine ⟨trivial, fun _ => by omega, ?_⟩ | refine ⟨trivial, ?_⟩); refine ((show _ from H2.out ▸ Packer_Name.in_ (n - 1) (by omega) wr HPr.out (by have := HNN.out; have := HRI.out; omega) E N 0 HCR.out)).mono ?_; rintro e w9 ⟨v9, rfl, hf9, hp9, hd9⟩; obtain ⟨A9, c9, rfl, hc9, _⟩ := hf9.reads; have HC9 := Aside0.mk hc9; have HF9 := Aside0.mk hf9; have HP9 := Aside0.mk hp9; have HG9 := Aside0.mk (hd9.full HFr.out (fun e => by have := (HFr.out.base_ _ e).1; have := blk_lt HP4.out.cell; omega) (fun e => by have := (HFr.out.base_ _ e).1; have := blk_lt HP4.out.cell; omega)); have HB9 := Aside0.mk (hd9.below HBr.out HBr.out.size HB1.out.size (by have := HB1.out.size; omega)); clear hc9 hf9 hp9 hd9
        | (first | refine ⟨trivial, fun _ => by omega, ?_⟩ | refine ⟨trivial, ?_⟩); refine (callsIn_wide.2 (name_Parent.calls N _ _ _ HPN.out)).mono ?_; rintro e w10 ⟨rfl, hb10⟩; have HF10 := Aside0.mk (HF9.out.below hb10); have HG10 := Aside0.mk (HG9.out.below hb10); have HP10 := Aside0.mk (HP9.out.below hb10); have HB10 := Aside0.mk (HB9.out.trans (hb10.mono HB9.out.size)); clear hb10)
      gi_region_with (first
        | (first | refine ⟨trivial, fun _ => by omega, ?_⟩ | refine ⟨trivial, ?_⟩); refine (callsIn_wide.2 (ostiarykit_SameBytes.calls A9 c9 [0] (some ⟨w10.heap.size, 0, none⟩) 1 [0] true _ (HF10.out.below (by repeat (first | exact Below.refl _ _ | apply below_alloc | apply pw_below_drewN | apply below_drew))).cOf HC9.out (Kd.C_below (C_lit1 w10 0) (by repeat (first | exact Below.refl _ _ | apply below_alloc | apply pw_below_drewN | apply below_drew))) (Nat.le_refl _) (same_self [0]))).mono ?_; rintro e w11 ⟨rfl, nd, hw11⟩; have HW11 : Aside0 (Below w10.heap.size w10 w11) := ⟨by rw [hw11]; repeat (first | exact Below.refl _ _ | apply below_alloc | apply pw_below_drewN | apply below_drew)⟩; clear hw11; have HG11 := Aside0.mk (HG10.out.below HW11.out); have HP11 := Aside0.mk (HP10.out.below HW11.out); have HB11 := Aside0.mk (HB10.out.trans (HW11.out.mono HB10.out.size)); have hst : (convert 22 9 (.slice A5 Q.length c5)).run Try.prog w11 = .ok (.string s) w11 := (string_of_reads (P := Try.prog) Try.underlying22 Try.underlying5 Try.underlying9 (Kd.reads_of_C HG11.out.cOf)).trans (by rw [HSQ.out])
        | (first | refine ⟨trivial, fun _ => by omega, ?_⟩ | refine ⟨trivial, ?_⟩); refine (Packer_Known.in_ (n - 1) (by omega) _ HP11.out).mono ?_; rintro e w12 ⟨rfl, rfl⟩
        | (first | refine ⟨trivial, fun _ => by omega, ?_⟩ | refine ⟨trivial, ?_⟩); refine (callsIn_wide.2 (name_Count.calls s _ _ HCN.out)).mono ?_; rintro e w13 ⟨rfl, hb13⟩; have HB13 := Aside0.mk (HB11.out.trans (hb13.mono HB11.out.size)); clear hb13)
      all_goals
        gi_wp2
        go_ret
        refine ⟨rfl, ?_⟩
        repeat (first | exact HB13.out | apply pw_below_drewN | apply below_drew)
    · have hl := HLab.out.2.1
      cases hl with
      | nil => exact absurd rfl hr
      | cons c x r' h1 h2 h3 h4 =>
        obtain ⟨t0, ht0⟩ := HLK.out s' (c :: (x ++ r')) HLab.out.1 HLab.out.2.1 HLab.out.2.2 hr
        have htl := HPr.out.tails.low _ (lookL_mem ht0)
        have H2 : Aside0 (packF ⟨T, E⟩ E N 0 = (ptr t0, 0, ⟨T, E + 2⟩)) := ⟨by rw [HN.out]; exact pack_again HBQ.out HE.out.1 (by have := HE.out; have := HRI.out; omega) hr ht0⟩
        have HPN : Aside0 (name_Parent.f N = some (strOfNums (r' ++ [0]), true)) := ⟨by rw [HN.out]; exact parent_name h1 h2 h3 h4 HBQ.out HRL.out⟩
        have hw1 : IntKind.i64.wrap (E + 2) = E + 2 := IntWalk.i64_in _ (by have := HE.out; have := HRI.out; omega)
        have hlow : decide (192 + t0 / 256 < 192) = false := decide_eq_false (by have := htl.1; omega)
        have HLR : Aside0 (Lab (s' ++ c :: x) ∧ Lab r' ∧ q = (s' ++ c :: x) ++ r') := ⟨HLab.out.1.append (Lab.one h1 h2 h3), h4, by rw [HLab.out.2.2]; simp⟩
        have HRI2 : Aside0 ((r'.length : Int) + 2 * (I + 1) ≤ 254) := ⟨by have := HRI.out; simp only [List.length_cons, List.length_append] at this; omega⟩
        have HNS : Aside0 ((strOfNums (r' ++ [0])).size < N.size) := ⟨by rw [HN.out, strOfNums_size, strOfNums_size]; simp; omega⟩
        clear h1 h2 h3 h4 ht0 htl hr
        gi_wp2_with (first
          | (first | refine ⟨trivial, fun _ => by omega, ?_⟩ | refine ⟨trivial, ?_⟩); refine ((show _ from H2.out ▸ Packer_Name.in_ (n - 1) (by omega) wr HPr.out (by have := HNN.out; have := HRI.out; omega) E N 0 HCR.out)).mono ?_; rintro e w9 ⟨v9, rfl, hf9, hp9, hd9⟩; obtain ⟨g9, z9, rfl, hb9⟩ := Full.two hf9 rfl; have HK9 := Aside0.mk hb9; have HP9 := Aside0.mk hp9; have HG9 := Aside0.mk (hd9.full HFr.out (fun e => by have := (HFr.out.base_ _ e).1; have := blk_lt HP4.out.cell; omega) (fun e => by have := (HFr.out.base_ _ e).1; have := blk_lt HP4.out.cell; omega)); have HB9 := Aside0.mk (hd9.below HBr.out HBr.out.size HB1.out.size (by have := HB1.out.size; omega)); clear hb9 hf9 hp9 hd9
          | (first | refine ⟨trivial, fun _ => by omega, ?_⟩ | refine ⟨trivial, ?_⟩); refine (callsIn_wide.2 (name_Parent.calls N _ _ _ HPN.out)).mono ?_; rintro e w10 ⟨rfl, hb10⟩; have hk10 : w10.cell? ⟨g9, 0, none⟩ = some (.int .u8 (192 + t0 / 256)) := (blk_cell (blk_below HK9.out hb10) 0).trans rfl; have HG10 := Aside0.mk (HG9.out.below hb10); have HP10 := Aside0.mk (HP9.out.below hb10); have HB10 := Aside0.mk (HB9.out.trans (hb10.mono HB9.out.size)); clear hb10)
        exact ⟨⟨s' ++ c :: x, r', E + 2, I + 1, nn + 256, rfl, rfl, rfl, by have := HI.out; omega, HRI2, HLR, ⟨by have := HE.out; omega⟩, ⟨by have := HNN.out; have := HI.out; omega⟩, HP10, HG10, HB10⟩, HNS.out⟩

theorem ostiarylaw05_WireTwice.walk (a0 : ByteArray) (a1 : Int) (w : World) (w0 : a0.size ≤ 2000000) (w1 : (Lit.int .i64 a1).wf = true) :
    Calls Try.prog 14 #[.string a0, .int .i64 a1] w fun e w' => e = .returned (.bool true) ∧ Below w.heap.size w w' := by
  obtain ⟨c, hc⟩ := check_some w0
  by_cases h0 : c = 0
  · subst h0
    obtain ⟨q, hq, hb, hl, hs⟩ := check_form hc
    have hr := pick_range a1 (n := 16001) (by omega)
    exact callsIn_wide.1 (ostiarylaw05_WireTwice.yes 5 (by omega) a0 hc a1 (pick a1 16001) (pick_ok w1 (by omega)) hr.1 (by omega) q _ hq hb hl hs rfl _ rfl w)
  · exact callsIn_wide.1 (ostiarylaw05_WireTwice.no_ 5 (by omega) a0 c hc h0 a1 w)
end Go.Proofs.Ytjjbhpbmfpodeaa.X
end
section
namespace Go.Proofs.Ytjjbhpbmfpodeaa.X
open Go.RowKit Go.Proofs.YtjjbhpbmfpodeaaW.PrintWords Go.Proofs.YtjjbhpbmfpodeaaW.PrintLast Go.Proofs.YtjjbhpbmfpodeaaW.PrintMore
attribute [local go_sem] max2_int min2_int max_two min_two max_three min_three max_four min_four   -- for this text's walks alone
set_option linter.unusedVariables false
set_option linter.unusedSimpArgs false

theorem eqA31 (d : Nat) (w : World) (x0 y0 : Int) (x1 y1 : Int) :
    (Op.equalIn (d + 2) 31 (.agg #[.int .i64 x0, .int .i64 x1]) (.agg #[.int .i64 y0, .int .i64 y1])).run Try.prog w = .ok (x0 == y0 && (x1 == y1)) w := by
  refine eqA_of Try.underlying31 (by kernel_rfl) ?_
  refine eqf_cons (by rfl) (by go_simp; rfl) (by go_simp; rfl) (by go_simp) ?_
  exact eqf_last (by rfl) (by go_simp; rfl) (by go_simp; rfl) (by go_simp)
end Go.Proofs.Ytjjbhpbmfpodeaa.X
end
section
namespace Go.Proofs.Ytjjbhpbmfpodeaa.X
open Go.RowKit Go.Maps Go.Proofs.Ytjjbhpbmfpodeaa.PB Go.Proofs.YtjjbhpbmfpodeaaW.PrintWords Go.Proofs.YtjjbhpbmfpodeaaW.PrintLast Go.Proofs.YtjjbhpbmfpodeaaW.PrintMore
set_option linter.unusedVariables false
set_option linter.unusedSimpArgs false
attribute [local go_sem] Oper.semAt_some
namespace Kn5

/-- What lies in this statement's world: faults in blocks of their own. -/
structure Sf (w : World) (bs : List (Nat × Int × Int)) (W : World) : Prop where
  below : Below w.heap.size w W
  faults : ∀ p ∈ bs, w.heap.size ≤ p.1 ∧ W.heap[p.1]? = some (.cells #[.int .i64 p.2.1, .int .i64 p.2.2] 31 (0, 0))
variable {w W W' : World} {bs : List (Nat × Int × Int)}
theorem Sf.any (h : Sf w bs W) (o : Obj) : Sf w bs (W.alloc o) := ⟨below_alloc h.below _, fun p hp => ⟨(h.faults p hp).1, blk_alloc (h.faults p hp).2 _⟩⟩
theorem Sf.flt (h : Sf w bs W) (a b : Int) : Sf w ((W.heap.size, a, b) :: bs) (W.alloc (Obj.cells #[.int .i64 a, .int .i64 b] 31)) :=
  ⟨below_alloc h.below _, fun p hp => by
    rcases List.mem_cons.1 hp with rfl | hp
    · exact ⟨h.below.size, blk_new W _⟩
    · exact ⟨(h.faults p hp).1, blk_alloc (h.faults p hp).2 _⟩⟩
theorem Sf.next (h : Sf w bs W) (hb : Below W.heap.size W W') : Sf w bs W' :=
  ⟨h.below.trans (hb.mono h.below.size), fun p hp => ⟨(h.faults p hp).1, blk_below (h.faults p hp).2 hb⟩⟩

theorem C_lit (W : World) (xs : List Int) (h : xs.length ≤ 100) (cs : Array Value) (hc : cs = (nums .u8 xs).toArray) : Kd.C (Kd.int .u8) (W.alloc (.cells cs 5)) (some ⟨W.heap.size, 0, none⟩) xs.length xs := by
  subst hc; exact C_of_blk (blk_new W _) (by omega)
theorem Conv_lit (W : World) (xs : List Int) : Conv (W.alloc (.cells (nums .u8 xs).toArray 5 (xs.length, xs.length + 1))) W.heap.size xs :=
  ⟨_, xs.length, blk_new W _, Nat.le_refl _, fun j hj => by simp [nums, List.getD_eq_getElem?_getD, List.getElem?_eq_getElem hj]⟩
theorem e45a : wire_Read.f 12 [192, 0] 0 = some (⟨#[]⟩, 0, 150, 0) := by kernel_rfl
theorem k45a (W : World) (g : Nat) (hg : W.heap.size = g) : Calls Try.prog 45 #[.slice (some ⟨g, 0, none⟩) 2 2, .int .i64 0] (W.alloc (Obj.cells #[.int .u8 192, .int .u8 0] 5)) fun e w' => e = .returned (.tuple #[.string ⟨#[]⟩, .int .i64 0, .agg #[.int .i64 150, .int .i64 0]]) ∧ Below (W.alloc (Obj.cells #[.int .u8 192, .int .u8 0] 5)).heap.size (W.alloc (Obj.cells #[.int .u8 192, .int .u8 0] 5)) w' := by
  subst hg
  exact wire_Read.calls 12 (some ⟨W.heap.size, 0, none⟩) 2 [192, 0] 0 ⟨#[]⟩ 0 150 0 _ (C_lit W [192, 0] (by decide) _ rfl) (by decide) e45a
theorem e45b : wire_Read.f 12 [1, 97, 192, 0] 0 = some (⟨#[]⟩, 0, 150, 2) := by kernel_rfl
theorem k45b (W : World) (g : Nat) (hg : W.heap.size = g) : Calls Try.prog 45 #[.slice (some ⟨g, 0, none⟩) 4 4, .int .i64 0] (W.alloc (Obj.cells #[.int .u8 1, .int .u8 97, .int .u8 192, .int .u8 0] 5)) fun e w' => e = .returned (.tuple #[.string ⟨#[]⟩, .int .i64 0, .agg #[.int .i64 150, .int .i64 2]]) ∧ Below (W.alloc (Obj.cells #[.int .u8 1, .int .u8 97, .int .u8 192, .int .u8 0] 5)).heap.size (W.alloc (Obj.cells #[.int .u8 1, .int .u8 97, .int .u8 192, .int .u8 0] 5)) w' := by
  subst hg
  exact wire_Read.calls 12 (some ⟨W.heap.size, 0, none⟩) 4 [1, 97, 192, 0] 0 ⟨#[]⟩ 0 150 2 _ (C_lit W [1, 97, 192, 0] (by decide) _ rfl) (by decide) e45b
theorem e45c : wire_Read.f 12 [64] 0 = some (⟨#[]⟩, 0, 4, 0) := by kernel_rfl
theorem k45c (W : World) (g : Nat) (hg : W.heap.size = g) : Calls Try.prog 45 #[.slice (some ⟨g, 0, none⟩) 1 1, .int .i64 0] (W.alloc (Obj.cells #[.int .u8 64] 5)) fun e w' => e = .returned (.tuple #[.string ⟨#[]⟩, .int .i64 0, .agg #[.int .i64 4, .int .i64 0]]) ∧ Below (W.alloc (Obj.cells #[.int .u8 64] 5)).heap.size (W.alloc (Obj.cells #[.int .u8 64] 5)) w' := by
  subst hg
  exact wire_Read.calls 12 (some ⟨W.heap.size, 0, none⟩) 1 [64] 0 ⟨#[]⟩ 0 4 0 _ (C_lit W [64] (by decide) _ rfl) (by decide) e45c
theorem e45d : wire_Read.f 12 [2, 97] 0 = some (⟨#[]⟩, 0, 4, 2) := by kernel_rfl
theorem k45d (W : World) (g : Nat) (hg : W.heap.size = g) : Calls Try.prog 45 #[.slice (some ⟨g, 0, none⟩) 2 2, .int .i64 0] (W.alloc (Obj.cells #[.int .u8 2, .int .u8 97] 5)) fun e w' => e = .returned (.tuple #[.string ⟨#[]⟩, .int .i64 0, .agg #[.int .i64 4, .int .i64 2]]) ∧ Below (W.alloc (Obj.cells #[.int .u8 2, .int .u8 97] 5)).heap.size (W.alloc (Obj.cells #[.int .u8 2, .int .u8 97] 5)) w' := by
  subst hg
  exact wire_Read.calls 12 (some ⟨W.heap.size, 0, none⟩) 2 [2, 97] 0 ⟨#[]⟩ 0 4 2 _ (C_lit W [2, 97] (by decide) _ rfl) (by decide) e45d
theorem e45e : wire_Read.f 12 [] 1 = some (⟨#[]⟩, 0, 5, 0) := by kernel_rfl
theorem k45e (W : World) : Calls Try.prog 45 #[.slice none 0 0, .int .i64 1] W fun e w' => e = .returned (.tuple #[.string ⟨#[]⟩, .int .i64 0, .agg #[.int .i64 5, .int .i64 0]]) ∧ Below W.heap.size W w' :=
  wire_Read.calls 12 none 0 [] 1 ⟨#[]⟩ 0 5 0 W (Kd.C_of_reads (d := (0 : Int)) (h1 := fun _ => rfl) ⟨rfl, by simp, fun h => absurd h (by simp)⟩) (by decide) e45e
theorem c1 : name_Check.f ⟨#[1, 97, 1, 98, 0]⟩ = some 0 := by kernel_rfl
theorem p1 : packF ⟨[], 0⟩ 12 ⟨#[1, 97, 1, 98, 0]⟩ 0 = ([1, 97, 1, 98, 0], 0, ⟨[(⟨#[1, 97, 1, 98, 0]⟩, 12), (⟨#[1, 98, 0]⟩, 14)], 17⟩) := by kernel_rfl
theorem q1 (n : Nat) (hn : 3 ≤ n) (W : World) (bp bm nn : Nat) (h : Pk W bp bm nn ⟨[], 0⟩) (hnn : nn ≤ 1000000) : CallsIn Fence.wide n Try.prog 51 #[.pointer (some ⟨bp, 0, none⟩), .int .i64 12, .string ⟨#[1, 97, 1, 98, 0]⟩] W fun e w' => ∃ v, e = .returned (.tuple #[v, .int .i64 0]) ∧ Full w' W.heap.size v [1, 97, 1, 98, 0] ∧ Pk w' bp bm (nn + 256) ⟨[(⟨#[1, 97, 1, 98, 0]⟩, 12), (⟨#[1, 98, 0]⟩, 14)], 17⟩ ∧ Pkd W w' bm bp := by
  have hh := Packer_Name.in_ n hn W h hnn 12 ⟨#[1, 97, 1, 98, 0]⟩ 0 c1
  rw [p1] at hh
  exact hh
theorem c2 : name_Check.f ⟨#[1, 99, 1, 98, 0]⟩ = some 0 := by kernel_rfl
theorem p2 : packF ⟨[(⟨#[1, 97, 1, 98, 0]⟩, 12), (⟨#[1, 98, 0]⟩, 14)], 17⟩ 17 ⟨#[1, 99, 1, 98, 0]⟩ 0 = ([1, 99, 192, 14], 0, ⟨[(⟨#[1, 97, 1, 98, 0]⟩, 12), (⟨#[1, 98, 0]⟩, 14), (⟨#[1, 99, 1, 98, 0]⟩, 17)], 21⟩) := by kernel_rfl
theorem q2 (n : Nat) (hn : 3 ≤ n) (W : World) (bp bm nn : Nat) (h : Pk W bp bm nn ⟨[(⟨#[1, 97, 1, 98, 0]⟩, 12), (⟨#[1, 98, 0]⟩, 14)], 17⟩) (hnn : nn ≤ 1000000) : CallsIn Fence.wide n Try.prog 51 #[.pointer (some ⟨bp, 0, none⟩), .int .i64 17, .string ⟨#[1, 99, 1, 98, 0]⟩] W fun e w' => ∃ v, e = .returned (.tuple #[v, .int .i64 0]) ∧ Full w' W.heap.size v [1, 99, 192, 14] ∧ Pk w' bp bm (nn + 256) ⟨[(⟨#[1, 97, 1, 98, 0]⟩, 12), (⟨#[1, 98, 0]⟩, 14), (⟨#[1, 99, 1, 98, 0]⟩, 17)], 21⟩ ∧ Pkd W w' bm bp := by
  have hh := Packer_Name.in_ n hn W h hnn 17 ⟨#[1, 99, 1, 98, 0]⟩ 0 c2
  rw [p2] at hh
  exact hh
theorem c3 : name_Check.f ⟨#[1, 65, 1, 98, 0]⟩ = some 0 := by kernel_rfl
theorem p3 : packF ⟨[(⟨#[1, 97, 1, 98, 0]⟩, 12), (⟨#[1, 98, 0]⟩, 14), (⟨#[1, 99, 1, 98, 0]⟩, 17)], 21⟩ 21 ⟨#[1, 65, 1, 98, 0]⟩ 0 = ([1, 65, 192, 14], 0, ⟨[(⟨#[1, 97, 1, 98, 0]⟩, 12), (⟨#[1, 98, 0]⟩, 14), (⟨#[1, 99, 1, 98, 0]⟩, 17), (⟨#[1, 65, 1, 98, 0]⟩, 21)], 25⟩) := by kernel_rfl
theorem q3 (n : Nat) (hn : 3 ≤ n) (W : World) (bp bm nn : Nat) (h : Pk W bp bm nn ⟨[(⟨#[1, 97, 1, 98, 0]⟩, 12), (⟨#[1, 98, 0]⟩, 14), (⟨#[1, 99, 1, 98, 0]⟩, 17)], 21⟩) (hnn : nn ≤ 1000000) : CallsIn Fence.wide n Try.prog 51 #[.pointer (some ⟨bp, 0, none⟩), .int .i64 21, .string ⟨#[1, 65, 1, 98, 0]⟩] W fun e w' => ∃ v, e = .returned (.tuple #[v, .int .i64 0]) ∧ Full w' W.heap.size v [1, 65, 192, 14] ∧ Pk w' bp bm (nn + 256) ⟨[(⟨#[1, 97, 1, 98, 0]⟩, 12), (⟨#[1, 98, 0]⟩, 14), (⟨#[1, 99, 1, 98, 0]⟩, 17), (⟨#[1, 65, 1, 98, 0]⟩, 21)], 25⟩ ∧ Pkd W w' bm bp := by
  have hh := Packer_Name.in_ n hn W h hnn 21 ⟨#[1, 65, 1, 98, 0]⟩ 0 c3
  rw [p3] at hh
  exact hh
theorem c4 : name_Check.f ⟨#[1, 98, 0]⟩ = some 0 := by kernel_rfl
theorem p4 : packF ⟨[(⟨#[1, 97, 1, 98, 0]⟩, 12), (⟨#[1, 98, 0]⟩, 14), (⟨#[1, 99, 1, 98, 0]⟩, 17), (⟨#[1, 65, 1, 98, 0]⟩, 21)], 25⟩ 25 ⟨#[1, 98, 0]⟩ 0 = ([192, 14], 0, ⟨[(⟨#[1, 97, 1, 98, 0]⟩, 12), (⟨#[1, 98, 0]⟩, 14), (⟨#[1, 99, 1, 98, 0]⟩, 17), (⟨#[1, 65, 1, 98, 0]⟩, 21)], 27⟩) := by kernel_rfl
theorem q4 (n : Nat) (hn : 3 ≤ n) (W : World) (bp bm nn : Nat) (h : Pk W bp bm nn ⟨[(⟨#[1, 97, 1, 98, 0]⟩, 12), (⟨#[1, 98, 0]⟩, 14), (⟨#[1, 99, 1, 98, 0]⟩, 17), (⟨#[1, 65, 1, 98, 0]⟩, 21)], 25⟩) (hnn : nn ≤ 1000000) : CallsIn Fence.wide n Try.prog 51 #[.pointer (some ⟨bp, 0, none⟩), .int .i64 25, .string ⟨#[1, 98, 0]⟩] W fun e w' => ∃ v, e = .returned (.tuple #[v, .int .i64 0]) ∧ Full w' W.heap.size v [192, 14] ∧ Pk w' bp bm (nn + 256) ⟨[(⟨#[1, 97, 1, 98, 0]⟩, 12), (⟨#[1, 98, 0]⟩, 14), (⟨#[1, 99, 1, 98, 0]⟩, 17), (⟨#[1, 65, 1, 98, 0]⟩, 21)], 27⟩ ∧ Pkd W w' bm bp := by
  have hh := Packer_Name.in_ n hn W h hnn 25 ⟨#[1, 98, 0]⟩ 0 c4
  rw [p4] at hh
  exact hh
theorem c5 : name_Check.f ⟨#[0]⟩ = some 0 := by kernel_rfl
theorem p5 : packF ⟨[(⟨#[1, 97, 1, 98, 0]⟩, 12), (⟨#[1, 98, 0]⟩, 14), (⟨#[1, 99, 1, 98, 0]⟩, 17), (⟨#[1, 65, 1, 98, 0]⟩, 21)], 27⟩ 26 ⟨#[0]⟩ 0 = ([], 9, ⟨[(⟨#[1, 97, 1, 98, 0]⟩, 12), (⟨#[1, 98, 0]⟩, 14), (⟨#[1, 99, 1, 98, 0]⟩, 17), (⟨#[1, 65, 1, 98, 0]⟩, 21)], 27⟩) := by kernel_rfl
theorem q5 (n : Nat) (hn : 3 ≤ n) (W : World) (bp bm nn : Nat) (h : Pk W bp bm nn ⟨[(⟨#[1, 97, 1, 98, 0]⟩, 12), (⟨#[1, 98, 0]⟩, 14), (⟨#[1, 99, 1, 98, 0]⟩, 17), (⟨#[1, 65, 1, 98, 0]⟩, 21)], 27⟩) (hnn : nn ≤ 1000000) : CallsIn Fence.wide n Try.prog 51 #[.pointer (some ⟨bp, 0, none⟩), .int .i64 26, .string ⟨#[0]⟩] W fun e w' => ∃ v, e = .returned (.tuple #[v, .int .i64 9]) ∧ Full w' W.heap.size v [] ∧ Pk w' bp bm (nn + 256) ⟨[(⟨#[1, 97, 1, 98, 0]⟩, 12), (⟨#[1, 98, 0]⟩, 14), (⟨#[1, 99, 1, 98, 0]⟩, 17), (⟨#[1, 65, 1, 98, 0]⟩, 21)], 27⟩ ∧ Pkd W w' bm bp := by
  have hh := Packer_Name.in_ n hn W h hnn 26 ⟨#[0]⟩ 0 c5
  rw [p5] at hh
  exact hh
theorem c6 : name_Check.f ⟨#[0]⟩ = some 0 := by kernel_rfl
theorem p6 : packF ⟨[(⟨#[1, 97, 1, 98, 0]⟩, 12), (⟨#[1, 98, 0]⟩, 14), (⟨#[1, 99, 1, 98, 0]⟩, 17), (⟨#[1, 65, 1, 98, 0]⟩, 21)], 27⟩ 20 ⟨#[0]⟩ 0 = ([], 9, ⟨[(⟨#[1, 97, 1, 98, 0]⟩, 12), (⟨#[1, 98, 0]⟩, 14), (⟨#[1, 99, 1, 98, 0]⟩, 17), (⟨#[1, 65, 1, 98, 0]⟩, 21)], 27⟩) := by kernel_rfl
theorem q6 (n : Nat) (hn : 3 ≤ n) (W : World) (bp bm nn : Nat) (h : Pk W bp bm nn ⟨[(⟨#[1, 97, 1, 98, 0]⟩, 12), (⟨#[1, 98, 0]⟩, 14), (⟨#[1, 99, 1, 98, 0]⟩, 17), (⟨#[1, 65, 1, 98, 0]⟩, 21)], 27⟩) (hnn : nn ≤ 1000000) : CallsIn Fence.wide n Try.prog 51 #[.pointer (some ⟨bp, 0, none⟩), .int .i64 20, .string ⟨#[0]⟩] W fun e w' => ∃ v, e = .returned (.tuple #[v, .int .i64 9]) ∧ Full w' W.heap.size v [] ∧ Pk w' bp bm (nn + 256) ⟨[(⟨#[1, 97, 1, 98, 0]⟩, 12), (⟨#[1, 98, 0]⟩, 14), (⟨#[1, 99, 1, 98, 0]⟩, 17), (⟨#[1, 65, 1, 98, 0]⟩, 21)], 27⟩ ∧ Pkd W w' bm bp := by
  have hh := Packer_Name.in_ n hn W h hnn 20 ⟨#[0]⟩ 0 c6
  rw [p6] at hh
  exact hh
theorem k32a (W : World) (g : Nat) (hg : W.heap.size = g) (A : Option Addr) (c base : Nat) (hr : Full W base (.slice A 5 c) [1, 97, 1, 98, 0]) (hc : 5 ≤ c) : Calls Try.prog 32 #[.slice A 5 c, .slice (some ⟨g, 0, none⟩) 5 5] (W.alloc (Obj.cells #[.int .u8 1, .int .u8 97, .int .u8 1, .int .u8 98, .int .u8 0] 5 (5, 6))) fun e w' => e = .returned (.bool true) ∧ Drawn0 (W.alloc (Obj.cells #[.int .u8 1, .int .u8 97, .int .u8 1, .int .u8 98, .int .u8 0] 5 (5, 6))) w' := by
  subst hg
  obtain ⟨A', c', e, _, h2⟩ := (hr.below (below_alloc (Below.refl _ _) (Obj.cells #[.int .u8 1, .int .u8 97, .int .u8 1, .int .u8 98, .int .u8 0] 5 (5, 6)))).reads
  cases e
  exact ostiarykit_SameBytes.calls A c [1, 97, 1, 98, 0] (some ⟨W.heap.size, 0, none⟩) 5 [1, 97, 1, 98, 0] true _ h2 hc (C_conv (Conv_lit W [1, 97, 1, 98, 0]) (by decide)) (by decide) (same_self _)
theorem k32b (W : World) (g : Nat) (hg : W.heap.size = g) (A : Option Addr) (c base : Nat) (hr : Full W base (.slice A 4 c) [1, 99, 192, 14]) (hc : 4 ≤ c) : Calls Try.prog 32 #[.slice A 4 c, .slice (some ⟨g, 0, none⟩) 4 4] (W.alloc (Obj.cells #[.int .u8 1, .int .u8 99, .int .u8 192, .int .u8 14] 5)) fun e w' => e = .returned (.bool true) ∧ Drawn0 (W.alloc (Obj.cells #[.int .u8 1, .int .u8 99, .int .u8 192, .int .u8 14] 5)) w' := by
  subst hg
  obtain ⟨A', c', e, _, h2⟩ := (hr.below (below_alloc (Below.refl _ _) (Obj.cells #[.int .u8 1, .int .u8 99, .int .u8 192, .int .u8 14] 5))).reads
  cases e
  exact ostiarykit_SameBytes.calls A c [1, 99, 192, 14] (some ⟨W.heap.size, 0, none⟩) 4 [1, 99, 192, 14] true _ h2 hc (C_lit W [1, 99, 192, 14] (by decide) _ rfl) (by decide) (same_self _)
theorem k32c (W : World) (g : Nat) (hg : W.heap.size = g) (A : Option Addr) (c base : Nat) (hr : Full W base (.slice A 4 c) [1, 65, 192, 14]) (hc : 4 ≤ c) : Calls Try.prog 32 #[.slice A 4 c, .slice (some ⟨g, 0, none⟩) 4 4] (W.alloc (Obj.cells #[.int .u8 1, .int .u8 65, .int .u8 192, .int .u8 14] 5)) fun e w' => e = .returned (.bool true) ∧ Drawn0 (W.alloc (Obj.cells #[.int .u8 1, .int .u8 65, .int .u8 192, .int .u8 14] 5)) w' := by
  subst hg
  obtain ⟨A', c', e, _, h2⟩ := (hr.below (below_alloc (Below.refl _ _) (Obj.cells #[.int .u8 1, .int .u8 65, .int .u8 192, .int .u8 14] 5))).reads
  cases e
  exact ostiarykit_SameBytes.calls A c [1, 65, 192, 14] (some ⟨W.heap.size, 0, none⟩) 4 [1, 65, 192, 14] true _ h2 hc (C_lit W [1, 65, 192, 14] (by decide) _ rfl) (by decide) (same_self _)
theorem k32d (W : World) (g : Nat) (hg : W.heap.size = g) (A : Option Addr) (c base : Nat) (hr : Full W base (.slice A 2 c) [192, 14]) (hc : 2 ≤ c) : Calls Try.prog 32 #[.slice A 2 c, .slice (some ⟨g, 0, none⟩) 2 2] (W.alloc (Obj.cells #[.int .u8 192, .int .u8 14] 5)) fun e w' => e = .returned (.bool true) ∧ Drawn0 (W.alloc (Obj.cells #[.int .u8 192, .int .u8 14] 5)) w' := by
  subst hg
  obtain ⟨A', c', e, _, h2⟩ := (hr.below (below_alloc (Below.refl _ _) (Obj.cells #[.int .u8 192, .int .u8 14] 5))).reads
  cases e
  exact ostiarykit_SameBytes.calls A c [192, 14] (some ⟨W.heap.size, 0, none⟩) 2 [192, 14] true _ h2 hc (C_lit W [192, 14] (by decide) _ rfl) (by decide) (same_self _)

theorem conv_same (W : World) : (convert 22 22 (.slice (some ⟨W.heap.size, 0, none⟩) 5 5)).run Try.prog (W.alloc (Obj.cells #[.int .u8 1, .int .u8 97, .int .u8 1, .int .u8 98, .int .u8 0] 5)) = .ok (.slice (some ⟨W.heap.size, 0, none⟩) 5 5) (W.alloc (Obj.cells #[.int .u8 1, .int .u8 97, .int .u8 1, .int .u8 98, .int .u8 0] 5 (5, 6))) :=
  Lib.run_convert_bytes_const W 22 5 _ 5 5 Try.underlying22 Try.underlying5
end Kn5
open Kn5
set_option maxHeartbeats 16000000 in
set_option maxRecDepth 100000 in
theorem ostiarylaw05_WireKnown.in_ (n : Nat) (hn : 5 ≤ n) (w : World) :
    CallsIn Fence.wide n Try.prog 13 #[] w fun e w' => e = .returned (.bool true) ∧ Below w.heap.size w w' := by
  have hcv := conv_same
  have HS0 : Aside0 (Sf w [] w) := ⟨⟨Below.refl _ _, fun p hp => by simp at hp⟩⟩
  refine callsIn_of_wp Try.func13 rfl trivial ?_ rfl
  simp only [Try.ntmps13, List.size_toArray, List.length_cons, List.length_nil, Nat.reduceAdd, Nat.reduceSub, Array.replicate_succ, Array.replicate_zero, List.push_toArray, List.append_toArray, List.nil_append, List.cons_append]
  gi_wp2_with (first
    | (first | refine ⟨trivial, fun _ => by omega, ?_⟩ | refine ⟨trivial, ?_⟩); (with_reducible refine (callsIn_wide.2 (k45a _ _ ?hgg)).mono ?_); (case hgg => first | rfl | simp); rintro e w1 ⟨rfl, hb⟩; have HS1 := Aside0.mk (((HS0.out.any _).next hb).flt 150 0); clear hb HS0
    | (first | refine ⟨trivial, fun _ => by omega, ?_⟩ | refine ⟨trivial, ?_⟩); (with_reducible refine (callsIn_wide.2 (k45b _ _ ?hgg)).mono ?_); (case hgg => first | rfl | simp); rintro e w2 ⟨rfl, hb⟩; have HS2 := Aside0.mk (((HS1.out.any _).next hb).flt 150 2); clear hb HS1
    | (first | refine ⟨trivial, fun _ => by omega, ?_⟩ | refine ⟨trivial, ?_⟩); (with_reducible refine (callsIn_wide.2 (k45c _ _ ?hgg)).mono ?_); (case hgg => first | rfl | simp); rintro e w3 ⟨rfl, hb⟩; have HS3 := Aside0.mk (((HS2.out.any _).next hb).flt 4 0); clear hb HS2
    | (first | refine ⟨trivial, fun _ => by omega, ?_⟩ | refine ⟨trivial, ?_⟩); (with_reducible refine (callsIn_wide.2 (k45d _ _ ?hgg)).mono ?_); (case hgg => first | rfl | simp); rintro e w4 ⟨rfl, hb⟩; have HS4 := Aside0.mk (((HS3.out.any _).next hb).flt 4 2); clear hb HS3
    | (first | refine ⟨trivial, fun _ => by omega, ?_⟩ | refine ⟨trivial, ?_⟩); (with_reducible refine (callsIn_wide.2 (k45e _)).mono ?_); rintro e w5 ⟨rfl, hb⟩; have HS5 := Aside0.mk (((HS4.out).next hb).flt 5 0); clear hb HS4; have kw10 : (w5.alloc (Obj.cells #[.int .i64 5, .int .i64 0] 31)).cell? ⟨w1.heap.size, 0, none⟩ = some (.int .i64 150) := (blk_cell (HS5.out.faults (w1.heap.size, 150, 0) (by simp)).2 0).trans rfl; have kw11 : (w5.alloc (Obj.cells #[.int .i64 5, .int .i64 0] 31)).cell? ⟨w1.heap.size, 1, none⟩ = some (.int .i64 0) := (blk_cell (HS5.out.faults (w1.heap.size, 150, 0) (by simp)).2 1).trans rfl; have kw20 : (w5.alloc (Obj.cells #[.int .i64 5, .int .i64 0] 31)).cell? ⟨w2.heap.size, 0, none⟩ = some (.int .i64 150) := (blk_cell (HS5.out.faults (w2.heap.size, 150, 2) (by simp)).2 0).trans rfl; have kw21 : (w5.alloc (Obj.cells #[.int .i64 5, .int .i64 0] 31)).cell? ⟨w2.heap.size, 1, none⟩ = some (.int .i64 2) := (blk_cell (HS5.out.faults (w2.heap.size, 150, 2) (by simp)).2 1).trans rfl; have kw30 : (w5.alloc (Obj.cells #[.int .i64 5, .int .i64 0] 31)).cell? ⟨w3.heap.size, 0, none⟩ = some (.int .i64 4) := (blk_cell (HS5.out.faults (w3.heap.size, 4, 0) (by simp)).2 0).trans rfl; have kw31 : (w5.alloc (Obj.cells #[.int .i64 5, .int .i64 0] 31)).cell? ⟨w3.heap.size, 1, none⟩ = some (.int .i64 0) := (blk_cell (HS5.out.faults (w3.heap.size, 4, 0) (by simp)).2 1).trans rfl; have kw40 : (w5.alloc (Obj.cells #[.int .i64 5, .int .i64 0] 31)).cell? ⟨w4.heap.size, 0, none⟩ = some (.int .i64 4) := (blk_cell (HS5.out.faults (w4.heap.size, 4, 2) (by simp)).2 0).trans rfl; have kw41 : (w5.alloc (Obj.cells #[.int .i64 5, .int .i64 0] 31)).cell? ⟨w4.heap.size, 1, none⟩ = some (.int .i64 2) := (blk_cell (HS5.out.faults (w4.heap.size, 4, 2) (by simp)).2 1).trans rfl; have kw50 : (w5.alloc (Obj.cells #[.int .i64 5, .int .i64 0] 31)).cell? ⟨w5.heap.size, 0, none⟩ = some (.int .i64 5) := (blk_cell (HS5.out.faults (w5.heap.size, 5, 0) (by simp)).2 0).trans rfl; have kw51 : (w5.alloc (Obj.cells #[.int .i64 5, .int .i64 0] 31)).cell? ⟨w5.heap.size, 1, none⟩ = some (.int .i64 0) := (blk_cell (HS5.out.faults (w5.heap.size, 5, 0) (by simp)).2 1).trans rfl
    | (first | refine ⟨trivial, fun _ => by omega, ?_⟩ | refine ⟨trivial, ?_⟩); refine (wire_New.in_ (n - 1) (by omega) _).mono ?_; rintro e w6 ⟨rfl, hp6, hb⟩; have HW : Aside0 (w.heap.size ≤ w5.heap.size + 1) := ⟨by have := HS5.out.below.size; rw [World.size_alloc] at this; exact this⟩; have HB6 := Aside0.mk (HS5.out.below.trans (hb.mono HS5.out.below.size)); have HP6 : Aside0 (Pk w6 (w5.heap.size + 1 + 1) (w5.heap.size + 1) 0 ⟨[], 0⟩) := ⟨by have := hp6; simp only [World.size_alloc] at this; exact this⟩; clear hp6 hb
    | (first | refine ⟨trivial, fun _ => by omega, ?_⟩ | refine ⟨trivial, ?_⟩); (with_reducible refine (q1 (n - 1) (by omega) _ _ _ _ HP6.out (by omega)).mono ?_); rintro e w7 ⟨v, rfl, hf, hp, hd⟩; obtain ⟨A1, c1_, rfl, hc, _⟩ := hf.reads; have C1 : Aside0 (5 ≤ c1_) := ⟨hc⟩; have F1_7 := Aside0.mk hf; clear hc; have HP7 := Aside0.mk hp; have HB7 := Aside0.mk (hd.below HB6.out HB6.out.size HW.out (Nat.le_succ_of_le HW.out)); have HL1 : Aside0 (w5.heap.size + 1 + 1 < w6.heap.size) := ⟨blk_lt HP6.out.cell⟩; clear hf hp hd
    | (first | refine ⟨trivial, fun _ => by omega, ?_⟩ | refine ⟨trivial, ?_⟩); (with_reducible refine (q2 (n - 1) (by omega) _ _ _ _ HP7.out (by omega)).mono ?_); rintro e w8 ⟨v, rfl, hf, hp, hd⟩; obtain ⟨A2, c2_, rfl, hc, _⟩ := hf.reads; have C2 : Aside0 (4 ≤ c2_) := ⟨hc⟩; have F2_8 := Aside0.mk hf; clear hc; have HP8 := Aside0.mk hp; have HB8 := Aside0.mk (hd.below HB7.out HB7.out.size HW.out (Nat.le_succ_of_le HW.out)); have F1_8 := Aside0.mk (hd.full F1_7.out (fun e => by have := (F1_7.out.base_ _ e).1; have := HL1.out; omega) (fun e => by have := (F1_7.out.base_ _ e).1; have := HL1.out; omega)); have HL2 : Aside0 (w5.heap.size + 1 + 1 < w7.heap.size) := ⟨blk_lt HP7.out.cell⟩; clear hf hp hd
    | (first | refine ⟨trivial, fun _ => by omega, ?_⟩ | refine ⟨trivial, ?_⟩); (with_reducible refine (q3 (n - 1) (by omega) _ _ _ _ HP8.out (by omega)).mono ?_); rintro e w9 ⟨v, rfl, hf, hp, hd⟩; obtain ⟨A3, c3_, rfl, hc, _⟩ := hf.reads; have C3 : Aside0 (4 ≤ c3_) := ⟨hc⟩; have F3_9 := Aside0.mk hf; clear hc; have HP9 := Aside0.mk hp; have HB9 := Aside0.mk (hd.below HB8.out HB8.out.size HW.out (Nat.le_succ_of_le HW.out)); have F1_9 := Aside0.mk (hd.full F1_8.out (fun e => by have := (F1_8.out.base_ _ e).1; have := HL1.out; omega) (fun e => by have := (F1_8.out.base_ _ e).1; have := HL1.out; omega)); have F2_9 := Aside0.mk (hd.full F2_8.out (fun e => by have := (F2_8.out.base_ _ e).1; have := HL2.out; omega) (fun e => by have := (F2_8.out.base_ _ e).1; have := HL2.out; omega)); have HL3 : Aside0 (w5.heap.size + 1 + 1 < w8.heap.size) := ⟨blk_lt HP8.out.cell⟩; clear hf hp hd
    | (first | refine ⟨trivial, fun _ => by omega, ?_⟩ | refine ⟨trivial, ?_⟩); (with_reducible refine (callsIn_wide.2 (k32a _ _ ?hgg A1 c1_ _ F1_9.out C1.out)).mono ?_); (case hgg => first | rfl | simp); rintro e w10 ⟨rfl, nd, hw⟩; have HX10 : Aside0 (Below w9.heap.size w9 w10) := ⟨by rw [hw]; exact pw_below_drewN (below_alloc (Below.refl _ _) _) _⟩; clear hw; have HP10 := Aside0.mk (HP9.out.below HX10.out); have HB10 := Aside0.mk (HB9.out.trans (HX10.out.mono HB9.out.size)); have F2_10 := Aside0.mk (F2_9.out.below HX10.out); have F3_10 := Aside0.mk (F3_9.out.below HX10.out)
    | (first | refine ⟨trivial, fun _ => by omega, ?_⟩ | refine ⟨trivial, ?_⟩); (with_reducible refine (callsIn_wide.2 (k32b _ _ ?hgg A2 c2_ _ F2_10.out C2.out)).mono ?_); (case hgg => first | rfl | simp); rintro e w11 ⟨rfl, nd, hw⟩; have HX11 : Aside0 (Below w10.heap.size w10 w11) := ⟨by rw [hw]; exact pw_below_drewN (below_alloc (Below.refl _ _) _) _⟩; clear hw; have HP11 := Aside0.mk (HP10.out.below HX11.out); have HB11 := Aside0.mk (HB10.out.trans (HX11.out.mono HB10.out.size)); have F3_11 := Aside0.mk (F3_10.out.below HX11.out)
    | (first | refine ⟨trivial, fun _ => by omega, ?_⟩ | refine ⟨trivial, ?_⟩); (with_reducible refine (callsIn_wide.2 (k32c _ _ ?hgg A3 c3_ _ F3_11.out C3.out)).mono ?_); (case hgg => first | rfl | simp); rintro e w12 ⟨rfl, nd, hw⟩; have HX12 : Aside0 (Below w11.heap.size w11 w12) := ⟨by rw [hw]; exact pw_below_drewN (below_alloc (Below.refl _ _) _) _⟩; clear hw; have HP12 := Aside0.mk (HP11.out.below HX12.out); have HB12 := Aside0.mk (HB11.out.trans (HX12.out.mono HB11.out.size))
    | (first | refine ⟨trivial, fun _ => by omega, ?_⟩ | refine ⟨trivial, ?_⟩); refine (Packer_Known.in_ (n - 1) (by omega) _ HP12.out).mono ?_; rintro e w12 ⟨rfl, rfl⟩
    | (first | refine ⟨trivial, fun _ => by omega, ?_⟩ | refine ⟨trivial, ?_⟩); (with_reducible refine (q4 (n - 1) (by omega) _ _ _ _ HP12.out (by omega)).mono ?_); rintro e w13 ⟨v, rfl, hf, hp, hd⟩; obtain ⟨A4, c4_, rfl, hc, _⟩ := hf.reads; have C4 : Aside0 (2 ≤ c4_) := ⟨hc⟩; have F4_13 := Aside0.mk hf; clear hc; have HP13 := Aside0.mk hp; have HB13 := Aside0.mk (hd.below HB12.out HB12.out.size HW.out (Nat.le_succ_of_le HW.out)); have HL4 : Aside0 (w5.heap.size + 1 + 1 < w12.heap.size) := ⟨blk_lt HP12.out.cell⟩; clear hf hp hd
    | (first | refine ⟨trivial, fun _ => by omega, ?_⟩ | refine ⟨trivial, ?_⟩); (with_reducible refine (q5 (n - 1) (by omega) _ _ _ _ HP13.out (by omega)).mono ?_); rintro e w14 ⟨v, rfl, hf, hp, hd⟩; have HP14 := Aside0.mk hp; have HB14 := Aside0.mk (hd.below HB13.out HB13.out.size HW.out (Nat.le_succ_of_le HW.out)); have F4_14 := Aside0.mk (hd.full F4_13.out (fun e => by have := (F4_13.out.base_ _ e).1; have := HL4.out; omega) (fun e => by have := (F4_13.out.base_ _ e).1; have := HL4.out; omega)); clear hf hp hd
    | (first | refine ⟨trivial, fun _ => by omega, ?_⟩ | refine ⟨trivial, ?_⟩); (with_reducible refine (q6 (n - 1) (by omega) _ _ _ _ HP14.out (by omega)).mono ?_); rintro e w15 ⟨v, rfl, hf, hp, hd⟩; have HP15 := Aside0.mk hp; have HB15 := Aside0.mk (hd.below HB14.out HB14.out.size HW.out (Nat.le_succ_of_le HW.out)); have F4_15 := Aside0.mk (hd.full F4_14.out (fun e => by have := (F4_14.out.base_ _ e).1; have := HL4.out; omega) (fun e => by have := (F4_14.out.base_ _ e).1; have := HL4.out; omega)); clear hf hp hd
    | (first | refine ⟨trivial, fun _ => by omega, ?_⟩ | refine ⟨trivial, ?_⟩); refine (callsIn_wide.2 (ostiarylaw05_awake.calls 12 true _ (awake5 (by omega)))).mono ?_; rintro e w16 ⟨rfl, hb⟩; have F4_16 := Aside0.mk (F4_15.out.below hb); have HP16 := Aside0.mk (HP15.out.below hb); have HB16 := Aside0.mk (HB15.out.trans (hb.mono HB15.out.size)); clear hb
    | (first | refine ⟨trivial, fun _ => by omega, ?_⟩ | refine ⟨trivial, ?_⟩); (with_reducible refine (callsIn_wide.2 (k32d _ _ ?hgg A4 c4_ _ F4_16.out C4.out)).mono ?_); (case hgg => first | rfl | simp); rintro e w17 ⟨rfl, nd, hw⟩; have HX17 : Aside0 (Below w16.heap.size w16 w17) := ⟨by rw [hw]; exact pw_below_drewN (below_alloc (Below.refl _ _) _) _⟩; clear hw; have HP17 := Aside0.mk (HP16.out.below HX17.out); have HB17 := Aside0.mk (HB16.out.trans (HX17.out.mono HB16.out.size)))
  go_ret
  exact ⟨rfl, HB17.out⟩

theorem ostiarylaw05_WireKnown.walk (w : World) : Calls Try.prog 13 #[] w fun e w' => e = .returned (.bool true) ∧ Below w.heap.size w w' :=
  callsIn_wide.1 (ostiarylaw05_WireKnown.in_ 5 (by omega) w)
end Go.Proofs.Ytjjbhpbmfpodeaa.X
end
section
namespace Go.Proofs.Ytjjbhpbmfpodeaa.Facts

theorem words_behind : ∀ (a r : List Char), (a.all fun c => c != Char.ofNat 32) = true → wordsSigns (a ++ Char.ofNat 32 :: r) = a :: wordsSigns r
  | [], r, _ => rfl
  | c :: a, r, h => by
    simp only [List.all_cons, Bool.and_eq_true, bne_iff_ne, ne_eq] at h
    have ih := words_behind a r (by simpa using h.2)
    have hc : c ≠ ' ' := h.1
    show wordsSigns (c :: (a ++ Char.ofNat 32 :: r)) = _
    rw [wordsSigns, ih]
    · exact hc

/-- The head line: a word, a sum, a word, the rest; laid out once. -/
structure Laid (L : List Char) : Prop where
  parts : L = L.take 7 ++ Char.ofNat 32 :: ((L.drop 8).take 64 ++ Char.ofNat 32 :: ((L.drop 73).take 3 ++ Char.ofNat 32 :: L.drop 77))
  one : L.take 7 = "harness".toList
  sum : isSumSigns ((L.drop 8).take 64) = true
  cut : (L.drop 73).take 3 = "cut".toList
  two : (((L.drop 8).take 64).all fun c => c != Char.ofNat 32) = true
set_option maxRecDepth 1000000 in
theorem head : ∃ L : List Char, Try.pinned.checked.prog.initOrder = String.ofList L ∧ Laid L :=
  ⟨_, rfl, ⟨by kernel_rfl, by kernel_rfl, by kernel_rfl, by kernel_rfl, by kernel_rfl⟩⟩
theorem words : ∃ s r, isSumSigns s = true ∧ wordsSigns Try.pinned.checked.prog.initOrder.toList = "harness".toList :: s :: "cut".toList :: r := by
  obtain ⟨L, e, h⟩ := head
  refine ⟨(L.drop 8).take 64, wordsSigns (L.drop 77), h.sum, ?_⟩
  rw [e, String.toList_ofList]
  have h1 := h.parts
  have h2 := h.one
  have h4 := h.cut
  rw [h2, h4] at h1
  rw [h1, words_behind _ _ (by decide +kernel), words_behind _ _ h.two, words_behind _ _ (by decide +kernel), ← h1]
theorem behind {s : List Char} (r : List (List Char)) (h : isSumSigns s = true) : behindMainWord ("harness".toList :: s :: r) = r := by
  unfold behindMainWord
  simp [h]
/-- What is asked of the words behind the sum, where the first of them is 'cut'. -/
def body (P : Program) (r : List (List Char)) : Bool :=
    ("cut".toList == "gc".toList || "cut".toList == "spec".toList) && (r.isEmpty || r.head? == some "stop".toList) ||
    ("cut".toList == "carried".toList && r.take 2 == ["gc".toList, "cut".toList] && !P.laysLater && !P.bearsReflect) ||
    ((stripLifts liftWords ("cut".toList :: r)).2.head? == some "cut".toList &&
      ((stripLifts liftWords ("cut".toList :: r)).1.contains "finals" || !P.laysLater) && ((stripLifts liftWords ("cut".toList :: r)).1.contains "reflectrows" || !P.bearsReflect) &&
      ((stripLifts liftWords ("cut".toList :: r)).1.contains "reflectrows" || !(stripLifts liftWords ("cut".toList :: r)).1.contains "leanrows") &&
      P.doorFits (stripLifts liftWords ("cut".toList :: r)).1)
theorem enter_of {P : Program} {s : List Char} {r : List (List Char)} (h : isSumSigns s = true) (e : wordsSigns P.initOrder.toList = "harness".toList :: s :: "cut".toList :: r) (k : body P r = true) : P.mayEnter = true := by
  unfold Program.mayEnter
  rw [e, behind _ h]
  exact k
theorem finals_of {P : Program} {s : List Char} {r : List (List Char)} (h : isSumSigns s = true) (e : wordsSigns P.initOrder.toList = "harness".toList :: s :: "cut".toList :: r) (k : (("cut".toList :: r).head? == some "carried".toList && ("cut".toList :: r).take 3 != ["carried".toList, "gc".toList, "cut".toList] || (stripLifts liftWords ("cut".toList :: r)).1.contains "finals") = false) : P.liftsFinal = false := by
  unfold Program.liftsFinal Program.headLifts
  rw [e, behind _ h]
  exact k
theorem make_of {P : Program} {s : List Char} {r : List (List Char)} (h : isSumSigns s = true) (e : wordsSigns P.initOrder.toList = "harness".toList :: s :: "cut".toList :: r) : P.make = some .cut := by
  unfold Program.make
  rw [e, behind _ h]
  rfl
theorem body_true (r : List (List Char)) : body Try.pinned.checked.prog r = true := by kernel_rfl
theorem mayEnter : Try.pinned.checked.prog.mayEnter = true := by
  obtain ⟨s, r, h, e⟩ := words
  exact enter_of h e (body_true r)
theorem finals : Try.pinned.checked.prog.liftsFinal = false := by
  obtain ⟨s, r, h, e⟩ := words
  exact finals_of h e (by kernel_rfl)
theorem make : Try.pinned.checked.prog.make = some .cut := by
  obtain ⟨s, r, h, e⟩ := words
  exact make_of h e
end Go.Proofs.Ytjjbhpbmfpodeaa.Facts
end
section
namespace Go.Proofs.Ytjjbhpbmfpodeaa.wireKnown
open Go.ChangeShapes Go.WideShapes Go.ChangeAt Go.RowKit
open Go.ChangeMaps (open_string shut_string)
set_option linter.unusedVariables false
theorem own : ownKnob Try.prog.godebug = none := by kernel_rfl
theorem laidOut : laidOutB Try.prog = true := by kernel_rfl
def IsRow (k : IntKind) (w : World) (a : Option Addr) (len cap : Nat) (zs : List Int) : Prop :=
  (a = none ∧ len = 0 ∧ cap = 0 ∧ zs = []) ∨
  ∃ x, a = some x ∧ len ≤ cap ∧ cap ≤ maxLen ∧ zs.length = cap ∧ (∀ i, i < zs.length → w.cell? (x.add i) = some (.int k (zs.getD i 0))) ∧ ∀ n ∈ zs, (Lit.int k n).wf = true
set_option maxRecDepth 100000 in
theorem lifted (os : Os) (started : os.Started) (H : Type) (enc : TypeId × Value → H) :
    ReturnsInHanded {} Try.checked os 13 .any (Rows.wireKnownSpec.pre6 enc Try.prog Try.f13 Rows.wireKnownRow.domain false) (Rows.wireKnownSpec.post enc Try.prog Try.f13 false true false false) := by
  refine returnsInHanded_of_change_sized (C := Try.checked) own started (by kernel_rfl) Try.func13
    (ChangeSpec.witness6 (enc := enc) (C := Try.checked) false ⟨#[], #[], []⟩ 8 (by kernel_rfl) (by kernel_rfl) (by kernel_rfl) (by kernel_rfl)) ?_
  intro W base args ds gs before hval0 hW hcnd hsz0 _
  have hsz : (DataW.weightsEach Try.prog (Try.f13.params.toList ++ Rows.wireKnownSpec.plain.varTypes Try.prog) (ds ++ gs)).all (· ≤ reachBytes) = true := hsz0
  have hval : ∀ (j : Nat) t v, Try.f13.params[j]? = some t → args[j]? = some v → Value.okWide Try.prog W .any base t v := hval0
  have hW' := hW
  obtain ⟨p, q, hA0, hV, rfl, hfz, hnd⟩ := hW
  have hA : DataW.TrodAll enc Try.prog W 0 (fun _ => true) true Try.f13.params.toList args.toList ds p := hA0
  rw [Try.params13] at hA hval hsz
  obtain ⟨hargs, rfl, rfl⟩ := trodAll_nil hA
  obtain rfl : args = #[] := by cases args; simp_all
  obtain ⟨rfl, rfl⟩ := trodVars_none hV
  clear hA0 hval0 hsz0 hsz
  refine (X.ostiarylaw05_WireKnown.walk W ).mono fun e W' ⟨he, bel⟩ => ?_
  subst he
  exact ⟨_, rfl, _, _, _, [], _, [], hW', trodAll_mk1 (shut_bool Try.underlying4 _), trodAll_mk0, rfl, bel.frame _, fun h => by cases h⟩
theorem facts : joinedFacts Try.pinned.checked.prog 13 Try.f13 Rows.wireKnownSpec Rows.wireKnownRow = true := by
  unfold joinedFacts
  simp only [Bool.and_eq_true]
  repeat' (refine And.intro ?_ ?_)
  all_goals first | (with_reducible exact Facts.mayEnter) | (rw [Facts.finals]; rfl) | (rw [Facts.make]; rfl) | (as_aux_lemma => kernel_rfl)
theorem over : Rows.wireKnownRow.holds Try.pinned (OpenSpec.ofChange Rows.wireKnownSpec) :=
  OpenClaim.holds_of_wide 13 Try.f13 rfl rfl rfl rfl rfl rfl rfl ⟨rfl, rfl, rfl, rfl, rfl⟩ rfl rfl rfl rfl rfl (by kernel_rfl) Try.func13 facts
    (of_decide_eq_true (by kernel_rfl)) (by unfold Func.isWrapper; first | (rw [if_pos (by decide +kernel)]; kernel_rfl) | (rw [if_neg (by decide +kernel)]; exact ⟨rfl, rfl⟩))
    (fun os started H enc _ => lifted os started H enc)
theorem proved : Rows.WireKnownSaid := over
#print axioms proved
end Go.Proofs.Ytjjbhpbmfpodeaa.wireKnown
namespace Go.Proofs.Ytjjbhpbmfpodeaa
/-- The row, under a short name, for the claim. -/
theorem wireKnown_holds : Rows.WireKnownSaid := wireKnown.proved
end Go.Proofs.Ytjjbhpbmfpodeaa
end
