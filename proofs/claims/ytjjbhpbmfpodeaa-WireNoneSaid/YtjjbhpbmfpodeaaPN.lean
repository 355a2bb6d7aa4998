/- Plain lemmas on names: bytes told as lists of numbers, the form of a name's labels, and what name.Labels tells of such bytes. -/
import Derived.Test.YtjjbhpbmfpodeaaPB
import Derived.Test.YtjjbhpbmfpodeaaH93
import Derived.Test.YtjjbhpbmfpodeaaX48
namespace Go.Proofs.Ytjjbhpbmfpodeaa.PB
open Go.RowKit Go.Proofs.Ytjjbhpbmfpodeaa.X Go.Proofs.YtjjbhpbmfpodeaaW.PrintWords Go.Proofs.YtjjbhpbmfpodeaaW.PrintLast
set_option linter.unusedVariables false
set_option linter.unusedSimpArgs false

theorem and14 {n : Int} (h0 : 0 ≤ n) (h1 : n < 9223372036854775808) : Go.bits .and .i64 n 16383 = n % 16384 := by
  obtain ⟨m, rfl⟩ := Int.eq_ofNat_of_zero_le h0
  unfold Go.bits
  simp
  show IntKind.i64.wrap ((m % 2 ^ 64 &&& 16383 : Nat) : Int) = _
  rw [Nat.mod_eq_of_lt (by omega), show (16383 : Nat) = 2 ^ 14 - 1 by rfl, Nat.and_two_pow_sub_one_eq_mod, IntWalk.i64_in _ (by omega)]
  omega

theorem bytesB_mem {l : List Int} (h : bytesB l = true) {x : Int} (hx : x ∈ l) : 0 ≤ x ∧ x ≤ 255 := by
  simp only [bytesB, List.all_eq_true, decide_eq_true_eq] at h
  exact h x hx
theorem rd_byte {l : List Int} (h : bytesB l = true) (i : Int) : 0 ≤ rd l i ∧ rd l i ≤ 255 := by
  unfold rd
  rw [List.getD_eq_getElem?_getD]
  by_cases hi : i.toNat < l.length
  · rw [List.getElem?_eq_getElem hi]; exact bytesB_mem h (List.getElem_mem hi)
  · rw [List.getElem?_eq_none (by omega)]; simp
theorem str_bytes {l : List Int} (h : bytesB l = true) : bytesOf (strOfNums l) = l := by
  unfold bytesOf
  rw [strOfNums_data, List.map_map]
  conv => rhs; rw [← List.map_id l]
  refine List.map_congr_left fun x hx => ?_
  have := bytesB_mem h hx
  simp only [Function.comp, id]
  have e : UInt8.toNat (UInt8.ofNat x.toNat) = x.toNat := by rw [UInt8.toNat_ofNat']; omega
  rw [e]; omega
theorem bt_str {l : List Int} (h : bytesB l = true) (i : Int) : bt (strOfNums l) i = rd l i := by
  rw [← rd_bytesOf, str_bytes h]
theorem str_inj {l r : List Int} (hl : bytesB l = true) (hr : bytesB r = true) (h : strOfNums l = strOfNums r) : l = r := by
  rw [← str_bytes hl, ← str_bytes hr, h]
theorem str_extract (l : List Int) (a b : Nat) : (strOfNums l).extract a b = strOfNums ((l.drop a).take (b - a)) := by
  apply ByteArray.ext
  rw [ByteArray.data_extract]
  unfold strOfNums
  simp [List.map_take, List.map_drop]

/-- The bytes of whole labels. -/
inductive Lab : List Int → Prop
  | nil : Lab []
  | cons (c : Int) (x r : List Int) : 1 ≤ c → c ≤ 63 → (x.length : Int) = c → Lab r → Lab (c :: (x ++ r))

theorem Lab.append {a b : List Int} (ha : Lab a) (hb : Lab b) : Lab (a ++ b) := by
  induction ha with
  | nil => exact hb
  | cons c x r h1 h2 h3 _ ih => rw [List.cons_append, List.append_assoc]; exact .cons c x _ h1 h2 h3 ih
theorem Lab.one {c : Int} {x : List Int} (h1 : 1 ≤ c) (h2 : c ≤ 63) (h3 : (x.length : Int) = c) : Lab (c :: x) := by
  have := Lab.cons c x [] h1 h2 h3 .nil
  rwa [List.append_nil] at this
theorem Lab.ne_one {a : List Int} (ha : Lab a) : a.length ≠ 1 := by
  cases ha with
  | nil => simp
  | cons c x r h1 h2 h3 _ => simp only [List.length_cons, List.length_append]; omega

theorem lbRoot_str {l : List Int} (h : bytesB l = true) : lbRoot (strOfNums l) = true ↔ l = [0] := by
  unfold lbRoot
  rw [beq_iff_eq, ByteArray.toList_eq, strOfNums_data]
  constructor
  · intro e
    refine str_inj h (by decide) ?_
    apply ByteArray.ext
    apply Array.toList_inj.1
    rw [strOfNums_data]
    exact e
  · rintro rfl; rfl

theorem evs_lab {a : List Int} (ha : Lab a) : ∀ (k : Nat), bytesB a = true → (lbEvs k (strOfNums (a ++ [0]))).all (·.2) = true := by
  induction ha with
  | nil =>
    intro k _
    cases k with
    | zero => rfl
    | succ k => rw [List.nil_append, lbEvs, if_pos ((lbRoot_str (by decide)).2 rfl)]; rfl
  | cons c x r h1 h2 h3 _ ih =>
    intro k hb
    cases k with
    | zero => rfl
    | succ k =>
      have hb2 : bytesB ((c :: (x ++ r)) ++ [0]) = true := bytesB_append.2 ⟨hb, by decide⟩
      have hbr : bytesB r = true := by
        have e : c :: (x ++ r) = (c :: x) ++ r := rfl
        rw [e] at hb; exact (bytesB_append.1 hb).2
      have hbt : bt (strOfNums ((c :: (x ++ r)) ++ [0])) 0 = c := by rw [bt_str hb2]; rfl
      have hsz : (strOfNums ((c :: (x ++ r)) ++ [0])).size = x.length + r.length + 2 := by rw [strOfNums_size]; simp; omega
      rw [lbEvs, if_neg (fun h => by have := congrArg List.length ((lbRoot_str hb2).1 h); simp at this)]
      have hnb : ¬ lbBad (strOfNums ((c :: (x ++ r)) ++ [0])) = true := by
        unfold lbBad
        rw [hbt, hsz]
        simp
        omega
      rw [if_neg hnb, List.all_cons]
      have hrest : lbRest (strOfNums ((c :: (x ++ r)) ++ [0])) = strOfNums (r ++ [0]) := by
        unfold lbRest
        rw [hbt, str_extract, hsz]
        congr 1
        have e : 1 + c.toNat = (c :: x).length := by simp; omega
        have e2 : (c :: (x ++ r)) ++ [0] = (c :: x) ++ (r ++ [0]) := by simp
        rw [e2, e, List.drop_left, List.take_of_length_le (by simp; omega)]
      rw [hrest, ih k hbr]
      rfl

/-- Bytes that are whole labels and the root's are a name. -/
theorem labels_ok {a : List Int} (ha : Lab a) (hb : bytesB a = true) (hl : a.length ≤ 254) : ∃ ls, name_Labels.f (strOfNums (a ++ [0])) = some (ls, 0) := by
  refine ⟨(lbEvs ((strOfNums (a ++ [0])).size + 1) (strOfNums (a ++ [0]))).map (·.1), ?_⟩
  unfold name_Labels.f
  have hsz : (strOfNums (a ++ [0])).size = a.length + 1 := by rw [strOfNums_size]; simp
  rw [if_pos (by omega), if_pos (evs_lab ha _ hb), if_neg (by omega)]
theorem check_ok {a : List Int} (ha : Lab a) (hb : bytesB a = true) (hl : a.length ≤ 254) : name_Check.f (strOfNums (a ++ [0])) = some 0 := by
  obtain ⟨ls, h⟩ := labels_ok ha hb hl
  unfold name_Check.f
  rw [h]; rfl
end Go.Proofs.Ytjjbhpbmfpodeaa.PB
