/- The plain law of WireEnds: at each place of any bytes there is a name, or a fault within them. -/
import Derived.Test.YtjjbhpbmfpodeaaX9
import Derived.Test.YtjjbhpbmfpodeaaPW
namespace Go.Proofs.Ytjjbhpbmfpodeaa.PB
open Go.RowKit Go.Proofs.Ytjjbhpbmfpodeaa.X Go.Proofs.YtjjbhpbmfpodeaaW.PrintWords Go.Proofs.YtjjbhpbmfpodeaaW.PrintLast
set_option linter.unusedVariables false

theorem leO_le {α : Type} {f : Nat → Option α} (h : ∀ k, LeO (f k) (f (k + 1))) {k m : Nat} (hk : k ≤ m) : LeO (f k) (f m) := by
  induction hk with
  | refl => exact LeO.refl _
  | step _ ih => exact ih.trans (h _)

theorem read_at {l : List Int} (hb : bytesB l = true) (hl : l.length ≤ 140737488351232) {a : Int} (h0 : 0 ≤ a) (h1 : a ≤ l.length) :
    ∃ r, (∀ k, a.toNat + 257 < k → wire_Read.f k l a = some r) ∧ RdQ l a (a.toNat + 256) [] a (-1) r := by
  obtain ⟨r, hr, hq⟩ := rd_loop hb hl h0 h1 (a.toNat + 256) [] a a (-1) rfl (by simp) h0 h1 h0 h1 (by simp)
  refine ⟨r, fun k hk => ?_, hq⟩
  obtain ⟨k, rfl⟩ : ∃ m, k = m + 1 := ⟨k - 1, by omega⟩
  unfold wire_Read.f
  rw [if_neg (by omega), decide_eq_false (by omega), wire_Read.j0, if_neg (by decide)]
  exact hr k (by omega)

theorem read_awake : wire_Read.f 12 [1, 97, 0, 1, 98, 192, 0] 3 = some (strOfNums [1, 98, 1, 97, 0], 7, 0, 0) := by decide +kernel
theorem awake5 {k : Nat} (hk : 12 ≤ k) : ostiarylaw05_awake.f k = some true := by
  refine leO_le ostiarylaw05_awake.mono hk _ ?_
  unfold ostiarylaw05_awake.f
  rw [read_awake]
  simp only [Option.bind_some]
  rw [ByteArray.toList_eq, strOfNums_data]
  rfl

theorem str_toList_eq {a b : ByteArray} (h : a.toList = b.toList) : a = b := by
  apply ByteArray.ext
  apply Array.toList_inj.1
  rwa [ByteArray.toList_eq, ByteArray.toList_eq] at h
end Go.Proofs.Ytjjbhpbmfpodeaa.PB
namespace Go.Proofs.Ytjjbhpbmfpodeaa.Pure
open Go.RowKit Go.Proofs.Ytjjbhpbmfpodeaa.X Go.Proofs.Ytjjbhpbmfpodeaa.PB Go.Proofs.YtjjbhpbmfpodeaaW.PrintWords Go.Proofs.YtjjbhpbmfpodeaaW.PrintLast

theorem WireEnds : ostiarylaw05_WireEnds.Pure := by
  intro l a1 hmax hl hwf ha
  have hb := bytesB_of hwf
  refine ⟨5000, ?_⟩
  unfold ostiarylaw05_WireEnds.f
  rw [awake5 (by omega)]
  simp only [Option.bind_some]
  by_cases hbig : (l.length : Int) > 2000
  · rw [if_pos hbig]
  rw [if_neg hbig, w64 (by omega) (by omega), pick_ok ha (by omega)]
  simp only [Option.bind_some]
  obtain ⟨hp0, hp1⟩ := pick_range a1 (n := (l.length : Int) + 1) (by omega)
  obtain ⟨p, hp⟩ : ∃ p, p = pick a1 ((l.length : Int) + 1) := ⟨_, rfl⟩
  rw [← hp] at hp0 hp1 ⊢
  obtain ⟨r, hr, hq⟩ := read_at hb (by omega) hp0 (by omega)
  rw [hr 5000 (by omega)]
  simp only [Option.bind_some]
  rcases hq with ⟨e1, e2, e3, e4, e5⟩ | ⟨ls, nx, q1, q2, q3, q4, q5, q6⟩
  · rw [if_neg e1, if_pos trivial, e2, if_pos (by rw [ByteArray.toList_eq]), if_pos e3, if_pos e4, decide_eq_true e5]
  · obtain ⟨g1, g2, g3, g4⟩ := q6 (by decide)
    simp only [List.length_nil] at q3
    rw [q4]
    simp only [List.nil_append]
    rw [if_pos trivial, check_ok q1 q2 (by omega)]
    simp only [Option.bind_some]
    rw [if_pos trivial, if_neg (by omega), if_neg (by omega), w64 (by omega) (by omega), decide_eq_false (by omega), ostiarylaw05_WireEnds.j0, if_neg (by decide), w64 (by omega) (by omega), if_pos (by omega), if_pos (by omega)]
    split
    · rw [w64 (by omega) (by omega), strOfNums_size]
      simp only [List.length_append, List.length_cons, List.length_nil]
      split
      · rename_i hlen
        rw [if_pos (by omega)]
        rcases g4 with ⟨g5, g6⟩ | ⟨j, g5, g6, g7⟩
        · have hs := g6 4998 0 0 p.toNat (by omega) (by omega)
          have hp2 : p - (p.toNat : Int) = 0 := by omega
          rw [hp2] at hs
          have hf : wire_Read.f 4999 (l.drop p.toNat) 0 = some (strOfNums (ls ++ [0]), nx - p, 0, 0) := by
            unfold wire_Read.f
            rw [if_neg (by decide), decide_eq_false (by omega), wire_Read.j0, if_neg (by decide), hs, show (p.toNat : Int) = p by omega]
            rfl
          rw [hf]
          simp
        · omega
      · rfl
    · rfl
end Go.Proofs.Ytjjbhpbmfpodeaa.Pure
