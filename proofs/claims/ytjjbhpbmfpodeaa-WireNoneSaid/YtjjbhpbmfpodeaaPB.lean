/- Plain lemmas on the printed functions of layer 3: what octet.get, Put16, Put32, Bytes and the kit's copies tell. -/
import Derived.Test.YtjjbhpbmfpodeaaX34
import Derived.Test.YtjjbhpbmfpodeaaX36
import Derived.Test.YtjjbhpbmfpodeaaX37
import Derived.Test.YtjjbhpbmfpodeaaX38
import Derived.Test.YtjjbhpbmfpodeaaX39
import Derived.Test.YtjjbhpbmfpodeaaX30
import Derived.OpenShut
namespace Go.Proofs.Ytjjbhpbmfpodeaa.PB
open Go.RowKit Go.Proofs.Ytjjbhpbmfpodeaa.X Go.Proofs.YtjjbhpbmfpodeaaW.PrintWords Go.Proofs.YtjjbhpbmfpodeaaW.PrintLast

theorem bytesB_of {l : List Int} (h : ∀ x ∈ l, (Lit.int .u8 x).wf = true) : bytesB l = true := by
  simp only [bytesB, List.all_eq_true, decide_eq_true_eq]
  intro x hx
  have := bounds_u8 (h x hx)
  omega
theorem bytesB_append {a b : List Int} : bytesB (a ++ b) = true ↔ bytesB a = true ∧ bytesB b = true := by
  simp [bytesB, List.all_append]
theorem bytesB_take {l : List Int} (n : Nat) (h : bytesB l = true) : bytesB (l.take n) = true := by
  simp only [bytesB, List.all_eq_true] at h ⊢
  exact fun x hx => h x (List.mem_of_mem_take hx)
theorem bytesB_drop {l : List Int} (n : Nat) (h : bytesB l = true) : bytesB (l.drop n) = true := by
  simp only [bytesB, List.all_eq_true] at h ⊢
  exact fun x hx => h x (List.mem_of_mem_drop hx)
theorem same_self (l : List Int) : ostiarykit_SameBytes.f l l = some true := by simp [ostiarykit_SameBytes.f]
theorem get_ok {l : List Int} {a s : Int} (hb : bytesB l = true) (hs : s = 2 ∨ s = 4) (hl : l.length ≤ 140737488355328) (h0 : 0 ≤ a) (h1 : a + s ≤ l.length) :
    octet_get.f l a s = some (beVal ((l.drop a.toNat).take s.toNat), a + s, 0, 0) := by
  unfold octet_get.f
  rw [if_pos ⟨hb, hs, hl⟩, if_neg (by omega), if_neg (by omega)]
theorem get_short {l : List Int} {a s : Int} (hb : bytesB l = true) (hs : s = 2 ∨ s = 4) (hl : l.length ≤ 140737488355328) (h0 : 0 ≤ a) (h1 : a ≤ l.length) (h2 : l.length < a + s) :
    octet_get.f l a s = some (0, 0, 4, (l.length : Int)) := by
  unfold octet_get.f
  rw [if_pos ⟨hb, hs, hl⟩, if_neg (by omega), if_pos (by omega)]
theorem get_range {l : List Int} {a s : Int} (hb : bytesB l = true) (hs : s = 2 ∨ s = 4) (hl : l.length ≤ 140737488355328) (h0 : a < 0 ∨ l.length < a) :
    octet_get.f l a s = some (0, 0, 5, 0) := by
  unfold octet_get.f
  rw [if_pos ⟨hb, hs, hl⟩, if_pos (by omega)]
theorem get16_of {l : List Int} {a x1 x2 x3 x4 : Int} (h : octet_get.f l a 2 = some (x1, x2, x3, x4)) : octet_Get16.f l a = some (x1, x2, x3, x4) := by
  unfold octet_Get16.f; rw [h]; rfl
theorem get32_of {l : List Int} {a x1 x2 x3 x4 : Int} (h : octet_get.f l a 4 = some (x1, x2, x3, x4)) : octet_Get32.f l a = some (x1, x2, x3, x4) := by
  unfold octet_Get32.f; rw [h]; rfl
def bs16 (n : Int) : List Int := [(n / 256) % 256, n % 256]
def bs32 (n : Int) : List Int := [(n / 16777216) % 256, (n / 65536) % 256, (n / 256) % 256, n % 256]
theorem put16_ok {n : Int} (h0 : 0 ≤ n) (h1 : n < 65536) : octet_Put16.f n = some (bs16 n, 0) := by
  unfold octet_Put16.f octet_put_2_byte.f
  rw [if_pos ⟨h0, h1⟩]
  simp [octet_put_2_byte.bs, bs16]
theorem put16_no {n : Int} (h : n < 0 ∨ 65536 ≤ n) : octet_Put16.f n = some ([], 5) := by
  unfold octet_Put16.f octet_put_2_byte.f
  rw [if_neg (by omega)]
  rfl
theorem put32_ok {n : Int} (h0 : 0 ≤ n) (h1 : n < 4294967296) : octet_Put32.f n = some (bs32 n, 0) := by
  unfold octet_Put32.f octet_put_4_byte.f
  rw [if_pos ⟨h0, h1⟩]
  simp [octet_put_4_byte.bs, bs32]
theorem put32_no {n : Int} (h : n < 0 ∨ 4294967296 ≤ n) : octet_Put32.f n = some ([], 5) := by
  unfold octet_Put32.f octet_put_4_byte.f
  rw [if_neg (by omega)]
  rfl
theorem beVal_bs16 {n : Int} (h0 : 0 ≤ n) (h1 : n < 65536) : beVal (bs16 n) = n := by
  simp [beVal, bs16]; omega
theorem beVal_bs32 {n : Int} (h0 : 0 ≤ n) (h1 : n < 4294967296) : beVal (bs32 n) = n := by
  simp [beVal, bs32]; omega
theorem bytesB_bs16 (n : Int) : bytesB (bs16 n) = true := by
  simp [bytesB, bs16]; omega
theorem bytesB_bs32 (n : Int) : bytesB (bs32 n) = true := by
  simp [bytesB, bs32]; omega
theorem copy_ok {l : List Int} (h : l.length < 140737488355328) : ostiarykit_CopyBytes.f l = some l := by
  unfold ostiarykit_CopyBytes.f
  simp [h]
theorem awake : ostiarylaw03_awake.f = some true := by
  unfold ostiarylaw03_awake.f
  rw [put16_ok (by omega) (by omega)]
  simp only [Option.bind_some]
  rw [get16_of (get_ok (by decide) (by omega) (by decide) (by omega) (by decide))]
  simp only [Option.bind_some]
  rw [show bs16 258 = [1, 2] from rfl, same_self]
  rfl
end Go.Proofs.Ytjjbhpbmfpodeaa.PB
namespace Go.Proofs.Ytjjbhpbmfpodeaa.PB
open Go.RowKit Go.Proofs.Ytjjbhpbmfpodeaa.X Go.Proofs.YtjjbhpbmfpodeaaW.PrintWords Go.Proofs.YtjjbhpbmfpodeaaW.PrintLast
theorem w64 {x : Int} (h0 : -9223372036854775808 ≤ x) (h1 : x ≤ 9223372036854775807) : wrap64 x = x := by unfold wrap64; omega
theorem bytes_ok {k : Nat} {l : List Int} {a n : Int} (hl : l.length ≤ 140737488351232) (h0 : 0 ≤ a) (hn : 0 ≤ n) (h1 : a + n ≤ l.length) :
    octet_Bytes.f (k + 1) l a n = some ((l.drop a.toNat).take n.toNat, a + n, 0, 0) := by
  unfold octet_Bytes.f
  rw [if_neg (by omega), if_neg (by omega), decide_eq_false (by omega)]
  simp only [octet_Bytes.j0]
  rw [if_neg (by decide), w64 (x := (l.length : Int) - a) (by omega) (by omega), if_neg (by omega), w64 (x := a + n) (by omega) (by omega)]
  simp only [Option.bind_some]
  rw [if_pos h0, if_pos (by omega), if_pos h1, if_pos (by simp; omega)]
  rw [List.nil_append, List.drop_take]
  congr 3
  omega
theorem bytes_short {k : Nat} {l : List Int} {a n : Int} (hl : l.length ≤ 140737488351232) (h0 : 0 ≤ a) (ha : a ≤ l.length) (hn : 0 ≤ n) (h1 : l.length < a + n) :
    octet_Bytes.f (k + 1) l a n = some ([], 0, 4, (l.length : Int)) := by
  unfold octet_Bytes.f
  rw [if_neg (by omega), if_neg (by omega), decide_eq_false (by omega)]
  simp only [octet_Bytes.j0]
  rw [if_neg (by decide), w64 (x := (l.length : Int) - a) (by omega) (by omega), if_pos (by omega)]
theorem bytes_range {k : Nat} {l : List Int} {a n : Int} (ha : a < 0 ∨ l.length < a) (hn : 0 ≤ n) :
    octet_Bytes.f (k + 1) l a n = some ([], 0, 5, 0) := by
  unfold octet_Bytes.f
  rw [if_neg (by omega)]
  by_cases h : a < 0
  · rw [if_pos h]; simp only [octet_Bytes.j0]; rw [if_pos trivial]
  · rw [if_neg h, decide_eq_true (by omega)]; simp only [octet_Bytes.j0]; rw [if_pos trivial]
theorem bytes_arg {k : Nat} {l : List Int} {a n : Int} (hn : n < 0) : octet_Bytes.f k l a n = some ([], 0, 2, 0) := by
  unfold octet_Bytes.f
  rw [if_pos hn]
/-- What Pick tells. -/
def pick (x n : Int) : Int := if n < 1 then 0 else x % n
theorem pick_ok {x n : Int} (hx : (Lit.int .i64 x).wf = true) (hn : n ≤ 9223372036854775807) : ostiarykit_Pick.f x n = some (pick x n) := by
  have hb := bounds_i64 hx
  unfold ostiarykit_Pick.f pick
  by_cases h : n < 1
  · rw [if_pos h, if_pos h]
  · rw [if_neg h, if_neg h, if_neg (by omega)]
    have hm1 := Int.emod_nonneg x (show n ≠ 0 by omega)
    have hm2 := Int.emod_lt_of_pos x (show 0 < n by omega)
    by_cases h0 : 0 ≤ x
    · rw [Int.tmod_eq_emod_of_nonneg h0, if_neg (by omega)]
    · have e : x.tmod n = -((-x) % n) := by
        rw [show x = -(-x) by omega, Int.neg_tmod, Int.tmod_eq_emod_of_nonneg (by omega)]; simp
      have g1 := Int.emod_nonneg (-x) (show n ≠ 0 by omega)
      have g2 := Int.emod_lt_of_pos (-x) (show 0 < n by omega)
      have g3 := Int.emod_add_mul_ediv x n
      have g4 := Int.emod_add_mul_ediv (-x) n
      rw [e]
      have key : x % n = if (-x) % n = 0 then 0 else n - (-x) % n := by
        rw [Int.neg_emod]
        by_cases hd : n ∣ x
        · rw [if_pos hd]; simp; exact Int.emod_eq_zero_of_dvd hd
        · rw [if_neg hd]
          have : x % n ≠ 0 := fun h => hd (Int.dvd_of_emod_eq_zero h)
          have hab : (n.natAbs : Int) = n := by omega
          rw [hab, if_neg (by omega)]; omega
      rw [key]
      by_cases hz : (-x) % n = 0
      · rw [hz, if_neg (by omega)]; simp
      · rw [if_pos (by omega), if_neg hz, w64 (by omega) (by omega)]
        congr 1; omega
theorem pick_range (x : Int) {n : Int} (hn : 0 < n) : 0 ≤ pick x n ∧ pick x n < n := by
  unfold pick
  rw [if_neg (by omega)]
  exact ⟨Int.emod_nonneg x (by omega), Int.emod_lt_of_pos x hn⟩
end Go.Proofs.Ytjjbhpbmfpodeaa.PB
