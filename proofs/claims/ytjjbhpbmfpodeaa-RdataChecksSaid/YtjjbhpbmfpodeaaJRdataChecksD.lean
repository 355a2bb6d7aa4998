/- A law of the document, proved of the program: its own texts (plain functions, the walks, plain lemmas, the row), one behind the other. Conditions: those in the theorems. Part 4 of 4. Laid by the session's program wip/merge2.py. -/
import Derived.Test.YtjjbhpbmfpodeaaRows
import Derived.Test.YtjjbhpbmfpodeaaProg
import Derived.Below
import Derived.Deep.Draws
import Derived.Deep.AppendLies
import Derived.Maps.AppendAt
import Derived.OwnWalk
import Derived.Laws.BytesArg
import Derived.Laws.MakeOwn
import Derived.Laws.OwnMore
import Derived.Deep.OwnRows
import Derived.Tactics
import Derived.Lib.ConvBytes
import Derived.Laws.Slices
import Derived.WalkKit
import Derived.KernelRfl
import Derived.RowKit3
import Derived.Deep.LoopGhost
import Derived.Deep.QuietTactic
import Derived.BigQuiet
import Derived.WideLaws
import Derived.Deep.DeepCutAuto
import Derived.Deep.CutBlock
import Derived.Deep.RegionHeld3
import Derived.Laws.Rows
import Derived.Lib.AppendStr
import Derived.ArgAppend
import Derived.Laws.IdiomCopy
import Derived.OrdersHeld
import Derived.Laws.BitsLemmas
import Derived.RowKit
import Derived.Test.YtjjbhpbmfpodeaaWWords
import Derived.Test.YtjjbhpbmfpodeaaWLast
import Derived.Test.YtjjbhpbmfpodeaaWTab
import Derived.Test.YtjjbhpbmfpodeaaWFour
import Derived.Test.YtjjbhpbmfpodeaaWQPut
import Derived.Test.YtjjbhpbmfpodeaaWApart
import Derived.Test.YtjjbhpbmfpodeaaWArr
import Derived.Test.YtjjbhpbmfpodeaaWZeros
import Derived.Test.YtjjbhpbmfpodeaaWFoot
import Derived.Test.YtjjbhpbmfpodeaaWKept
import Derived.Test.YtjjbhpbmfpodeaaWShare
import Derived.Test.YtjjbhpbmfpodeaaWN
import Derived.Test.YtjjbhpbmfpodeaaWFootNe
import Derived.Test.YtjjbhpbmfpodeaaWAt
import Derived.Test.YtjjbhpbmfpodeaaWEqStruct
import Derived.Test.YtjjbhpbmfpodeaaWRepsOne
import Derived.Test.YtjjbhpbmfpodeaaWInv
import Derived.Test.YtjjbhpbmfpodeaaWInvWords
import Derived.Test.YtjjbhpbmfpodeaaWGuard
import Derived.Test.YtjjbhpbmfpodeaaWNEv
import Derived.Test.YtjjbhpbmfpodeaaWMore
import Derived.RangeFuncWrites
import Derived.RangeFuncLeaves
import Derived.RangeFuncBox
import Derived.Deep.WholeRow
import Derived.Deep.RegionHeld
import Derived.Laws.CopyRow
import Derived.OwnWalkIn
import Derived.TacticsInMore
import Derived.LoopNIn
import Derived.LoopIn
import Derived.Sort.QuietIn
import Derived.Maps.OwnIn
import Derived.Maps.Views
import Derived.Sort.MapsRangeIn
import Derived.StringKeys
import Derived.Recover
import Derived.Laws.Panics
import Derived.OpenShut
import Derived.Shelf.Abstract
import Derived.Shelf.RegionOpen
import Derived.WalkSmall
import Derived.RecoverIn
import Derived.Laws.Pointers
import Derived.BigRegionIn
import Derived.WalkMore
import Derived.Lib.AtoiErrMem
import Derived.ProofKit
import Derived.JoinedOf
import Derived.ShutString
import Derived.ChangeOld
import Derived.SizedLaws
import Derived.Test.YtjjbhpbmfpodeaaJRdataChecksA
import Derived.Test.YtjjbhpbmfpodeaaJRdataChecksB
import Derived.Test.YtjjbhpbmfpodeaaJRdataChecksC
section
namespace Go.Proofs.Ytjjbhpbmfpodeaa.PB
open Go.RowKit Go.Proofs.Ytjjbhpbmfpodeaa.X Go.Proofs.YtjjbhpbmfpodeaaW.PrintWords Go.Proofs.YtjjbhpbmfpodeaaW.PrintLast
set_option linter.unusedVariables false
set_option linter.unusedSimpArgs false

theorem lowI_small {c : Int} (h : c ≤ 63) : lowI c = c := by unfold lowI; rw [if_neg (by omega)]
theorem lowL_append (a b : List Int) : lowL (a ++ b) = lowL a ++ lowL b := List.map_append
theorem lowL_length (a : List Int) : (lowL a).length = a.length := List.length_map _
theorem lowL_bytes {l : List Int} (h : bytesB l = true) : bytesB (lowL l) = true := by
  unfold bytesB lowL
  rw [List.all_eq_true]
  intro x hx
  obtain ⟨y, hy, rfl⟩ := List.mem_map.1 hx
  have := bytesB_mem h hy
  unfold lowI
  simp
  split <;> omega
theorem lowL_lab {a : List Int} (h : Lab a) : Lab (lowL a) := by
  induction h with
  | nil => exact .nil
  | cons c x r h1 h2 h3 _ ih =>
    have e : lowL (c :: (x ++ r)) = c :: (lowL x ++ lowL r) := by
      show lowI c :: lowL (x ++ r) = _
      rw [lowI_small h2, lowL_append]
    rw [e]
    exact .cons c _ _ h1 h2 (by rw [lowL_length]; exact h3) ih

def lowS (s : ByteArray) : ByteArray := strOfNums (lowL (bytesOf s))
theorem lowS_str {l : List Int} (h : bytesB l = true) : lowS (strOfNums l) = strOfNums (lowL l) := by unfold lowS; rw [str_bytes h]
theorem lowS_size (s : ByteArray) : (lowS s).size = s.size := by unfold lowS; rw [strOfNums_size, lowL_length, bytesOf_len]
theorem lowS_check {n : ByteArray} (h : name_Check.f n = some 0) : name_Check.f (lowS n) = some 0 := by
  obtain ⟨a, h1, h2, h3, rfl⟩ := check_form h
  rw [lowS_str (bytesB_append.2 ⟨h2, by decide⟩), lowL_append]
  exact check_ok (lowL_lab h1) (lowL_bytes h2) (by rw [lowL_length]; exact h3)
theorem lower_f {s : ByteArray} (h : s.size ≤ 100000000000) : name_Lower.f s = some (lowS s) := by unfold name_Lower.f; rw [if_pos h]; rfl

/-- The name that some bytes begin with is found. -/
theorem firstL_lab {q : List Int} (hq : Lab q) : ∀ (k : Nat) (p rest : List Int) (s : ByteArray), q.length < k → Lab p → bytesB (p ++ q) = true → bytesB rest = true → (p ++ q).length ≤ 254 → s = strOfNums (p ++ q ++ [0] ++ rest) → firstL k s p.length = some ((p ++ q).length + 1 : Int) := by
  induction hq with
  | nil =>
    intro k p rest s hk hp hb hr hl hs
    cases k with
    | zero => omega
    | succ k =>
      have hbb : bytesB (p ++ [] ++ [0] ++ rest) = true := bytesB_append.2 ⟨bytesB_append.2 ⟨hb, by decide⟩, hr⟩
      have hsz : s.size = p.length + 1 + rest.length := by rw [hs, strOfNums_size]; simp; omega
      have hbt : bt s p.length = 0 := by
        rw [hs, bt_str hbb]; unfold rd
        simp
      have he : s.extract 0 ((p.length : Int) + 1).toNat = strOfNums (p ++ [0]) := by
        rw [hs, str_extract]; congr 1
        have e3 : p ++ [] ++ [0] ++ rest = (p ++ [0]) ++ rest := by simp
        rw [show ((p.length : Int) + 1).toNat - 0 = (p ++ [0]).length by simp, e3, List.drop_zero, List.take_left]
      simp only [List.append_nil] at hb hl ⊢
      rw [firstL, if_pos ⟨by omega, by omega⟩, if_pos hbt, he, if_pos (check_ok hp hb hl)]
  | cons c x r h1 h2 h3 hr' ih =>
    intro k p rest s hk hp hb hr hl hs
    cases k with
    | zero => omega
    | succ k =>
      have hbb : bytesB (p ++ (c :: (x ++ r)) ++ [0] ++ rest) = true := bytesB_append.2 ⟨bytesB_append.2 ⟨hb, by decide⟩, hr⟩
      have hsz : s.size = p.length + 1 + x.length + r.length + 1 + rest.length := by rw [hs, strOfNums_size]; simp; omega
      have hbt : bt s p.length = c := by
        rw [hs, bt_str hbb]; unfold rd
        simp
      have hl' := hl
      simp only [List.length_append, List.length_cons] at hl'
      rw [firstL, if_pos ⟨by omega, by omega⟩, if_neg (by omega)]
      have e1 : p ++ (c :: (x ++ r)) = (p ++ (c :: x)) ++ r := by simp
      have := ih k (p ++ (c :: x)) rest s (by simp only [List.length_cons, List.length_append] at hk; omega) (hp.append (Lab.one h1 h2 h3)) (by rw [← e1]; exact hb) hr (by rw [← e1]; exact hl) (by rw [← e1]; exact hs)
      rw [← e1] at this
      rw [hbt, ← this]
      congr 1
      simp; omega
theorem firstN_lab {a rest : List Int} (ha : Lab a) (hb : bytesB a = true) (hr : bytesB rest = true) (hl : a.length ≤ 254) : firstN (strOfNums (a ++ [0] ++ rest)) = some (a.length + 1 : Int) := by
  have := firstL_lab ha 256 [] rest _ (by omega) .nil hb hr hl rfl
  exact this
theorem firstL_bound {s : ByteArray} : ∀ (k : Nat) (i : Int) {m : Int}, 0 ≤ i → firstL k s i = some m → 1 ≤ m ∧ m ≤ s.size
  | 0, i, m, _, h => by cases h
  | k + 1, i, m, h0, h => by
    rw [firstL] at h
    have hb := bt_range s i
    by_cases h1 : i < (s.size : Int) ∧ i < 255
    · rw [if_pos h1] at h
      by_cases h2 : bt s i = 0
      · rw [if_pos h2] at h
        by_cases h3 : name_Check.f (s.extract 0 (i + 1).toNat) = some 0
        · rw [if_pos h3] at h; injection h with h; omega
        · rw [if_neg h3] at h; cases h
      · rw [if_neg h2] at h; exact firstL_bound k _ (by omega) h
    · rw [if_neg h1] at h; cases h
theorem firstN_bound {s : ByteArray} {m : Int} (h : firstN s = some m) : 1 ≤ m ∧ m ≤ s.size := firstL_bound 256 0 (by omega) h

/-- A name ahead of any bytes is what first tells of them. -/
theorem firstN_name {n rest : ByteArray} (h : name_Check.f n = some 0) : firstN (n ++ rest) = some (n.size : Int) := by
  obtain ⟨a, h1, h2, h3, rfl⟩ := check_form h
  have e : strOfNums (a ++ [0]) ++ rest = strOfNums (a ++ [0] ++ bytesOf rest) := by
    rw [← str_append (a ++ [0]), str_of_bytes]
  rw [e, firstN_lab h1 h2 (bytesB_bytesOf rest) h3, strOfNums_size]
  simp

def cat (l : List S124) : ByteArray := l.foldr (fun x r => x.f0 ++ r) ⟨#[]⟩
def lowP (p : S124) : S124 := if p.f1 = true then ⟨lowS p.f0, true⟩ else p
theorem cat_cons (x : S124) (l : List S124) : cat (x :: l) = x.f0 ++ cat l := rfl
theorem lowP_size (p : S124) : (lowP p).f0.size = p.f0.size := by unfold lowP; split; exact lowS_size _; rfl
theorem cat_low_size (l : List S124) : (cat (l.map lowP)).size = (cat l).size := by
  induction l with
  | nil => rfl
  | cons x l ih => rw [List.map_cons, cat_cons, cat_cons, ByteArray.size_append, ByteArray.size_append, lowP_size, ih]
theorem ba_empty {s : ByteArray} (h : s.size = 0) : s = ⟨#[]⟩ := by
  apply ByteArray.ext
  exact Array.eq_empty_of_size_eq_zero h
theorem ba_split (s : ByteArray) {n : Nat} (h : n ≤ s.size) : s = s.extract 0 n ++ s.extract n s.size := by
  rw [ByteArray.extract_append_extract, Nat.zero_min, Nat.max_eq_right h, ByteArray.extract_zero_size]
theorem ba_left (a b : ByteArray) {n : Nat} (h : a.size = n) : (a ++ b).extract 0 n = a := by
  subst h
  apply ByteArray.ext
  rw [ByteArray.data_extract, ByteArray.data_append]
  show (a.data ++ b.data).extract 0 a.data.size = a.data
  simp
theorem ba_right (a b : ByteArray) {n : Nat} (h : a.size = n) : (a ++ b).extract n (a ++ b).size = b := by
  subst h
  apply ByteArray.ext
  rw [ByteArray.data_extract, ByteArray.size_append, ByteArray.data_append]
  show (a.data ++ b.data).extract a.data.size (a.data.size + b.data.size) = b.data
  rw [Array.extract_append_right]
  exact Array.extract_size
theorem ba_app0 (s : ByteArray) : s ++ (⟨#[]⟩ : ByteArray) = s := ByteArray.append_empty
theorem ba_0app (s : ByteArray) : (⟨#[]⟩ : ByteArray) ++ s = s := ByteArray.empty_append

/-- Data with their names in lower form fall into the same parts. -/
theorem split_low : ∀ (ps : List S119) (s : ByteArray) (out o : List S124) (r : ByteArray), (∀ p ∈ ps, (p.f2 = true → p.f1 = false) ∧ 0 ≤ p.f0) → splitGo ps s out = some (o, r) →
    ∃ l, o = out ++ l ∧ s = cat l ++ r ∧ (r.size = 0 → ∀ out', splitGo ps (cat (l.map lowP)) out' = some (out' ++ l.map lowP, ⟨#[]⟩))
  | [], s, out, o, r, _, h => by
    rw [splitGo] at h
    injection h with h
    injection h with h1 h2
    subst h1 h2
    refine ⟨[], by simp, (ba_0app _).symm, fun _ out' => ?_⟩
    simp [splitGo, cat]
  | p :: ps, s, out, o, r, hp, h => by
    have hps : ∀ q ∈ ps, (q.f2 = true → q.f1 = false) ∧ 0 ≤ q.f0 := fun q hq => hp q (List.mem_cons_of_mem _ hq)
    have hp1 := hp p List.mem_cons_self
    rw [splitGo] at h
    by_cases f2 : p.f2 = true
    · have f1 := hp1.1 f2
      rw [if_pos f2] at h
      by_cases ht : textsB s = true
      · rw [if_pos ht] at h
        simp only [] at h
        obtain ⟨l, rfl, e2, e3⟩ := split_low ps _ _ _ _ hps h
        have hx : s.extract (s.size : Int).toNat s.size = ⟨#[]⟩ := ba_empty (by rw [ByteArray.size_extract]; simp)
        have hy : s.extract 0 (s.size : Int).toNat = s := ByteArray.extract_zero_size
        rw [hx] at e2
        have hz := congrArg ByteArray.size e2
        rw [ByteArray.size_append] at hz
        have hz : (cat l).size = 0 := by have : ((⟨#[]⟩ : ByteArray)).size = 0 := rfl; omega
        have hr0 : r = ⟨#[]⟩ := by rw [ba_empty hz, ba_0app] at e2; exact e2.symm
        have hz2 : cat (l.map lowP) = ⟨#[]⟩ := ba_empty (by rw [cat_low_size]; exact hz)
        refine ⟨⟨s.extract 0 (s.size : Int).toNat, p.f1⟩ :: l, by simp, ?_, fun hr out' => ?_⟩
        · rw [cat_cons, ba_empty hz, hy, hr0, ba_app0, ba_app0]
        · have e4 := e3 hr (out' ++ [⟨s, p.f1⟩])
          rw [hz2] at e4
          have e5 : lowP ⟨s.extract 0 (s.size : Int).toNat, p.f1⟩ = ⟨s, p.f1⟩ := by unfold lowP; rw [hy, f1]; rfl
          rw [List.map_cons, e5, cat_cons, hz2, splitGo, if_pos f2]
          simp only [ba_app0]
          rw [if_pos ht]
          simp only []
          rw [hx, hy, e4]; simp
      · rw [if_neg ht] at h; cases h
    · rw [if_neg f2] at h
      by_cases f1 : p.f1 = true
      · rw [if_pos f1] at h
        cases hf : firstN s with
        | none => rw [hf] at h; cases h
        | some m =>
          rw [hf] at h
          simp only [] at h
          have hm := firstN_bound hf
          have hc := firstN_check hf
          obtain ⟨l, rfl, e2, e3⟩ := split_low ps _ _ _ _ hps h
          refine ⟨⟨s.extract 0 m.toNat, p.f1⟩ :: l, by simp, ?_, fun hr out' => ?_⟩
          · rw [cat_cons, ByteArray.append_assoc, ← e2]; exact ba_split s (by omega)
          · have e4 := e3 hr (out' ++ [⟨lowS (s.extract 0 m.toNat), true⟩])
            have e5 : lowP ⟨s.extract 0 m.toNat, p.f1⟩ = ⟨lowS (s.extract 0 m.toNat), true⟩ := by unfold lowP; exact if_pos f1
            rw [List.map_cons, e5, cat_cons, splitGo, if_neg f2, if_pos f1, firstN_name (lowS_check hc)]
            simp only [Int.toNat_natCast]
            rw [ba_left _ _ rfl, ba_right _ _ rfl, f1, e4]; simp
      · rw [if_neg f1] at h
        by_cases hs : (s.size : Int) < p.f0
        · rw [if_pos hs] at h; cases h
        · rw [if_neg hs] at h
          simp only [] at h
          obtain ⟨l, rfl, e2, e3⟩ := split_low ps _ _ _ _ hps h
          have hxs : (s.extract 0 p.f0.toNat).size = p.f0.toNat := by rw [ByteArray.size_extract]; omega
          refine ⟨⟨s.extract 0 p.f0.toNat, p.f1⟩ :: l, by simp, ?_, fun hr out' => ?_⟩
          · rw [cat_cons, ByteArray.append_assoc, ← e2]; exact ba_split s (by omega)
          · have e4 := e3 hr (out' ++ [⟨s.extract 0 p.f0.toNat, p.f1⟩])
            have e5 : lowP ⟨s.extract 0 p.f0.toNat, p.f1⟩ = ⟨s.extract 0 p.f0.toNat, p.f1⟩ := by unfold lowP; exact if_neg f1
            rw [List.map_cons, e5, cat_cons, splitGo, if_neg f2, if_neg f1, if_neg (by rw [ByteArray.size_append, hxs]; omega)]
            simp only []
            rw [ba_left _ _ hxs, ba_right _ _ hxs, e4]; simp

/-- Split data are those that Lower puts together. -/
theorem splitR_low {t : Int} {s : ByteArray} (h : (splitR t s).2 = true) : s = cat (splitR t s).1 ∧ splitR t (cat ((splitR t s).1.map lowP)) = ((splitR t s).1.map lowP, true) := by
  unfold splitR at h ⊢
  cases hp : partsL t with
  | none =>
    rw [hp] at h
    have e : lowP ⟨s, false⟩ = ⟨s, false⟩ := rfl
    simp only [List.map_cons, List.map_nil, e, cat_cons]
    have e2 : cat [] = ⟨#[]⟩ := rfl
    rw [e2, ba_app0]
    exact ⟨rfl, rfl⟩
  | some ps =>
    rw [hp] at h
    simp only [] at h ⊢
    have hok := partsL_ok hp
    cases hs : splitGo ps s [] with
    | none => rw [hs] at h; cases h
    | some x =>
      obtain ⟨o, r⟩ := x
      rw [hs] at h
      obtain ⟨l, e1, e2, e3⟩ := split_low ps s [] o r (fun p hp => ⟨(hok.2 p hp).1, (hok.2 p hp).2.1⟩) hs
      have hr : r.size = 0 := of_decide_eq_true h
      rw [List.nil_append] at e1
      subst e1
      simp only [spAns]
      rw [ba_empty hr, ba_app0] at e2
      refine ⟨e2, ?_⟩
      rw [e3 hr [], List.nil_append]
      rfl

/-- What Lower tells. -/
def lowR (t : Int) (s : ByteArray) : ByteArray := if (splitR t s).2 = true then cat ((splitR t s).1.map lowP) else s
theorem lower_loop (l : List S124) (hl : l.length < 1000) : ∀ (k i : Nat) (acc : ByteArray), l.length - i < k → i ≤ l.length → acc.size + (cat (l.drop i)).size ≤ 100000000000 →
    rdata_Lower.l0 k acc l (l.length : Int) (i : Int) = some (acc ++ cat ((l.drop i).map lowP))
  | 0, i, acc, h, _, _ => by omega
  | k + 1, i, acc, h, hi, hs => by
    rw [rdata_Lower.l0]
    by_cases h1 : (i : Int) < (l.length : Int)
    · have hi2 : i < l.length := by omega
      have hd : l.drop i = l[i] :: l.drop (i + 1) := List.drop_eq_getElem_cons hi2
      have hr : rd_T124 l (i : Int) = l[i] := by unfold rd_T124; rw [Int.toNat_natCast, List.getD_eq_getElem?_getD, List.getElem?_eq_getElem hi2]; rfl
      rw [hd, cat_cons, ByteArray.size_append] at hs
      have hw : wrap64 ((i : Int) + 1) = ((i + 1 : Nat) : Int) := by unfold wrap64; omega
      rw [if_pos h1, if_pos (by omega), if_pos h1, hr, hw, hd, List.map_cons, cat_cons]
      by_cases f1 : l[i].f1 = true
      · have e : (lowP l[i]).f0 = lowS l[i].f0 := by unfold lowP; rw [if_pos f1]
        rw [if_pos f1, lower_f (by omega)]
        simp only [Option.bind_some]
        rw [if_pos (by rw [lowS_size]; omega), lower_loop l hl k (i + 1) _ (by omega) (by omega) (by rw [ByteArray.size_append, lowS_size]; omega), e, ByteArray.append_assoc]
      · have e : (lowP l[i]).f0 = l[i].f0 := by unfold lowP; rw [if_neg f1]
        rw [if_neg f1, if_pos (by omega), lower_loop l hl k (i + 1) _ (by omega) (by omega) (by rw [ByteArray.size_append]; omega), e, ByteArray.append_assoc]
    · rw [if_neg h1, List.drop_eq_nil_of_le (by omega)]
      show some acc = some (acc ++ ⟨#[]⟩)
      rw [ba_app0]
theorem splitGo_len : ∀ (ps : List S119) (s : ByteArray) (out o : List S124) (r : ByteArray), splitGo ps s out = some (o, r) → o.length = out.length + ps.length
  | [], s, out, o, r, h => by
    rw [splitGo] at h; injection h with h; injection h with h1 h2; subst h1; simp
  | p :: ps, s, out, o, r, h => by
    rw [splitGo] at h
    split at h
    · cases h
    · have := splitGo_len ps _ _ _ _ h
      simp at this ⊢; omega
theorem splitR_len (t : Int) (s : ByteArray) : (splitR t s).1.length ≤ 3 := by
  unfold splitR
  cases hp : partsL t with
  | none => simp
  | some ps =>
    simp only []
    cases hs : splitGo ps s [] with
    | none => simp [spAns]
    | some x =>
      obtain ⟨o, r⟩ := x
      have := splitGo_len _ _ _ _ _ hs
      have := (partsL_ok hp).1
      simp only [spAns]
      simp at *; omega
theorem lower_f2 {t : Int} {s : ByteArray} (ht : (Lit.int .i64 t).wf = true) (hs : s.size ≤ 100000000000) {k : Nat} (hk : 4 ≤ k) : rdata_Lower.f k t s = some (lowR t s) := by
  have hf : rdata_split.f t s = some (splitR t s) := by unfold rdata_split.f; exact if_pos ⟨ht, hs⟩
  unfold rdata_Lower.f lowR
  rw [hf]
  simp only [Option.bind_some]
  have hn := splitR_len t s
  by_cases h : (splitR t s).2 = true
  · rw [if_pos h, if_pos h]
    have := lower_loop (splitR t s).1 (by omega) k 0 ⟨#[]⟩ (by omega) (by omega) (by
      rw [List.drop_zero, ← (splitR_low h).1]; show 0 + s.size ≤ _; omega)
    rw [Int.ofNat_zero] at this
    rw [this, List.drop_zero, ba_0app]
  · rw [if_neg h, if_neg h]
def isT (t : Int) : Prop := t = 2 ∨ t = 5 ∨ t = 12 ∨ t = 15
theorem target_yes (k : Nat) {t : Int} {s : ByteArray} (ht : isT t) (hc : rdata_Check.f 1 t s = some 0) :
    ∃ l x, (splitR t s).1 = l ++ [x] ∧ x.f1 = true ∧ name_Check.f x.f0 = some 0 ∧ rdata_Target.f (k + 1) t s = some (x.f0, true) := by
  obtain ⟨_, _, _, h4, h5⟩ := check_zero hc
  have hw1 : wrap64 ((1 : Int) - 1) = 0 := by unfold wrap64; omega
  have hw2 : wrap64 ((2 : Int) - 1) = 1 := by unfold wrap64; omega
  have one : ∀ x : S124, (splitR t s).1 = [x] → ((rdata_Check.f (k + 1) t s).bind fun t101 => (if t101 = 0 then ((rdata_split.f t s).bind fun bt102 => (if 0 ≤ (wrap64 ((bt102.1.length : Int) - 1)) then (if (wrap64 ((bt102.1.length : Int) - 1)) < (bt102.1.length : Int) then (some ((rd_T124 bt102.1 (wrap64 ((bt102.1.length : Int) - 1))).f0, true)) else (none)) else (none))) else (some ((⟨#[]⟩ : ByteArray), false)))) = some (x.f0, true) := by
    intro x hx
    rw [check_k, hc, h5]
    simp only [Option.bind_some, if_true, hx, List.length_cons, List.length_nil, Nat.zero_add]
    rw [show ((1 : Nat) : Int) = 1 from rfl, hw1, if_pos (by decide), if_pos (by decide)]
    rfl
  rcases ht with h | h | h | h
  · have hk : partsL t = some [⟨0, true, false⟩] := by rw [h]; rfl
    obtain ⟨n, hn, hch⟩ : ∃ n, (splitR t s).1 = [⟨n, true⟩] ∧ name_Check.f n = some 0 := by unfold splitR at h4 ⊢; rw [hk] at h4 ⊢; exact one_name h4
    refine ⟨[], _, hn, rfl, hch, ?_⟩
    unfold rdata_Target.f
    rw [if_pos h]; exact one _ hn
  · have hk : partsL t = some [⟨0, true, false⟩] := by rw [h]; rfl
    obtain ⟨n, hn, hch⟩ : ∃ n, (splitR t s).1 = [⟨n, true⟩] ∧ name_Check.f n = some 0 := by unfold splitR at h4 ⊢; rw [hk] at h4 ⊢; exact one_name h4
    refine ⟨[], _, hn, rfl, hch, ?_⟩
    unfold rdata_Target.f
    rw [if_neg (by omega), if_pos h]; exact one _ hn
  · have hk : partsL t = some [⟨0, true, false⟩] := by rw [h]; rfl
    obtain ⟨n, hn, hch⟩ : ∃ n, (splitR t s).1 = [⟨n, true⟩] ∧ name_Check.f n = some 0 := by unfold splitR at h4 ⊢; rw [hk] at h4 ⊢; exact one_name h4
    refine ⟨[], _, hn, rfl, hch, ?_⟩
    unfold rdata_Target.f
    rw [if_neg (by omega), if_neg (by omega), if_pos h]; exact one _ hn
  · have hk : partsL t = some [⟨2, false, false⟩, ⟨0, true, false⟩] := by rw [h]; rfl
    obtain ⟨x, n, hn, hch⟩ : ∃ x n, (splitR t s).1 = [x, ⟨n, true⟩] ∧ name_Check.f n = some 0 := by unfold splitR at h4 ⊢; rw [hk] at h4 ⊢; exact mx_name h4
    refine ⟨[x], _, hn, rfl, hch, ?_⟩
    unfold rdata_Target.f
    rw [if_neg (by omega), if_neg (by omega), if_neg (by omega), if_pos h, check_k, hc, h5]
    simp only [Option.bind_some, if_true, hn, List.length_cons, List.length_nil, Nat.zero_add, Nat.reduceAdd]
    rw [show ((2 : Nat) : Int) = 2 from rfl, hw2, if_pos (by decide), if_pos (by decide)]
    rfl
theorem target_no (k : Nat) {t : Int} {s : ByteArray} (hs : s.size ≤ 100000000000) (h : ¬ (isT t ∧ rdata_Check.f 1 t s = some 0)) : rdata_Target.f (k + 1) t s = some (⟨#[]⟩, false) := by
  by_cases ht : isT t
  · obtain ⟨c, hc⟩ := check_of (t := t) (s := s) (by rcases ht with h | h | h | h <;> omega) (by rcases ht with h | h | h | h <;> omega) hs
    have h0 : c ≠ 0 := by intro e; subst e; exact h ⟨ht, hc⟩
    unfold rdata_Target.f
    rw [check_k, hc]
    simp only [Option.bind_some]
    rw [if_neg h0]
    simp
  · have ht' : t ≠ 2 ∧ t ≠ 5 ∧ t ≠ 12 ∧ t ≠ 15 := by unfold isT at ht; omega
    unfold rdata_Target.f
    rw [if_neg ht'.1, if_neg ht'.2.1, if_neg ht'.2.2.1, if_neg ht'.2.2.2]
end Go.Proofs.Ytjjbhpbmfpodeaa.PB
end
section
namespace Go.Proofs.Ytjjbhpbmfpodeaa.PB
open Go.RowKit Go.Proofs.Ytjjbhpbmfpodeaa.X Go.Proofs.YtjjbhpbmfpodeaaW.PrintWords Go.Proofs.YtjjbhpbmfpodeaaW.PrintLast
set_option linter.unusedVariables false
set_option linter.unusedSimpArgs false

theorem ext_str (s : ByteArray) (a b : Nat) : s.extract a b = strOfNums (((bytesOf s).drop a).take (b - a)) := by
  conv => lhs; rw [← str_of_bytes s]
  exact str_extract _ _ _
theorem ext_tail (s : ByteArray) (a : Nat) : s.extract a s.size = strOfNums ((bytesOf s).drop a) := by
  rw [ext_str, List.take_of_length_le (by rw [List.length_drop, bytesOf_len]; omega)]
theorem bt_rd (s : ByteArray) (i : Int) : bt s i = rd (bytesOf s) i := (rd_bytesOf s i).symm
theorem tail_rest (s : ByteArray) (a b : Nat) (h : a ≤ b) : (s.extract a s.size).extract (b - a) (s.extract a s.size).size = s.extract b s.size := by
  rw [ext_tail s b, ext_tail s a, str_extract, strOfNums_size, List.drop_drop, show a + (b - a) = b by omega, List.take_of_length_le]
  simp; omega
theorem tail_bt (s : ByteArray) (i : Int) (h0 : 0 ≤ i) : bt (s.extract i.toNat s.size) 0 = bt s i := by
  rw [ext_tail, bt_str (bytesB_drop _ (bytesB_bytesOf s)), bt_rd]
  have := rd_drop (bytesOf s) i.toNat i (by omega)
  rwa [show i - (i.toNat : Int) = 0 by omega] at this
theorem tail_size (s : ByteArray) (i : Int) : (s.extract i.toNat s.size).size = s.size - i.toNat := by rw [ByteArray.size_extract]; omega
theorem root_tail (s : ByteArray) (i : Int) (h0 : 0 ≤ i) (h1 : i < s.size) : lbRoot (s.extract i.toNat s.size) = true ↔ (bt s i = 0 ∧ i = s.size - 1) := by
  have hb := bytesB_drop i.toNat (bytesB_bytesOf s)
  have hl := bytesOf_len s
  rw [ext_tail, lbRoot_str hb]
  constructor
  · intro h
    have h2 := congrArg List.length h
    rw [List.length_drop, hl] at h2
    simp at h2
    have h3 := tail_bt s i h0
    rw [ext_tail, bt_str hb, h] at h3
    exact ⟨h3.symm, by omega⟩
  · rintro ⟨h2, h3⟩
    have h4 := tail_bt s i h0
    rw [ext_tail, bt_str hb, h2] at h4
    have h5 : ((bytesOf s).drop i.toNat).length = 1 := by rw [List.length_drop, hl]; omega
    obtain ⟨x, hx⟩ := List.length_eq_one_iff.1 h5
    rw [hx] at h4 ⊢
    have : x = 0 := h4
    rw [this]

theorem ref_labels {s : ByteArray} (hs : s.size ≤ 2000000) : ∀ (M : Nat) (acc : List ByteArray) (i : Int) (kk : Nat), 0 ≤ i → i ≤ s.size → s.size - i.toNat < M → s.size - i.toNat < kk → acc.length ≤ i.toNat →
    ∃ L, ∀ k, M ≤ k → ostiaryref04_Labels.l0 k s acc i = some (L, if (lbEvs kk (s.extract i.toNat s.size)).all (·.2) = true then (if 255 < s.size then 3 else 0) else 4) := by
  intro M
  induction M with
  | zero => intro acc i kk _ _ h; omega
  | succ M ih =>
    intro acc i kk h0 h1 hM hkk hacc
    obtain ⟨kk, rfl⟩ : ∃ m, kk = m + 1 := ⟨kk - 1, by omega⟩
    have hts := tail_size s i
    rw [lbEvs]
    by_cases hend : i = s.size
    · refine ⟨[], fun k hk => ?_⟩
      obtain ⟨k, rfl⟩ : ∃ m, k = m + 1 := ⟨k - 1, by omega⟩
      have hr : lbRoot (s.extract i.toNat s.size) = false := by
        rw [ba_empty (s := s.extract i.toNat s.size) (by rw [hts]; omega)]; unfold lbRoot; rw [ByteArray.toList_eq]; rfl
      have hb : lbBad (s.extract i.toNat s.size) = true := by unfold lbBad; rw [hts, show s.size - i.toNat = 0 by omega]; rfl
      rw [ostiaryref04_Labels.l0, if_pos (by omega), hr, hb]
      simp
    have hbt := bt_range s i
    have hb0 := tail_bt s i h0
    have hw : wrap64 (bt s i) = bt s i := w64 (by omega) (by omega)
    have hroot := root_tail s i h0 (by omega)
    by_cases hz : bt s i = 0
    · by_cases hl : i = s.size - 1
      · rw [hroot.2 ⟨hz, hl⟩]
        by_cases h255 : 255 < s.size
        · refine ⟨[], fun k hk => ?_⟩
          obtain ⟨k, rfl⟩ : ∃ m, k = m + 1 := ⟨k - 1, by omega⟩
          rw [ostiaryref04_Labels.l0, if_neg (by omega), if_pos h0, if_pos (by omega), hw, if_pos hz, if_pos (by rw [w64 (by omega) (by omega)]; exact hl), if_pos (by omega)]
          simp [h255]
        · refine ⟨acc, fun k hk => ?_⟩
          obtain ⟨k, rfl⟩ : ∃ m, k = m + 1 := ⟨k - 1, by omega⟩
          rw [ostiaryref04_Labels.l0, if_neg (by omega), if_pos h0, if_pos (by omega), hw, if_pos hz, if_pos (by rw [w64 (by omega) (by omega)]; exact hl), if_neg (by omega)]
          simp [h255]
      · refine ⟨[], fun k hk => ?_⟩
        obtain ⟨k, rfl⟩ : ∃ m, k = m + 1 := ⟨k - 1, by omega⟩
        rw [ostiaryref04_Labels.l0, if_neg (by omega), if_pos h0, if_pos (by omega), hw, if_pos hz, if_neg (by rw [w64 (by omega) (by omega)]; exact hl)]
        have hr : ¬ lbRoot (s.extract i.toNat s.size) = true := fun h => hl (hroot.1 h).2
        have hb : lbBad (s.extract i.toNat s.size) = true := by unfold lbBad; rw [hb0, hz]; simp
        rw [if_neg hr, if_pos hb]
        simp
    have hr : ¬ lbRoot (s.extract i.toNat s.size) = true := fun h => hz (hroot.1 h).1
    rw [if_neg hr]
    by_cases h63 : bt s i > 63
    · refine ⟨[], fun k hk => ?_⟩
      obtain ⟨k, rfl⟩ : ∃ m, k = m + 1 := ⟨k - 1, by omega⟩
      have hb : lbBad (s.extract i.toNat s.size) = true := by unfold lbBad; rw [hb0]; simp [h63]
      rw [ostiaryref04_Labels.l0, if_neg (by omega), if_pos h0, if_pos (by omega), hw, if_neg hz, if_pos h63, if_pos hb]
      simp
    have hw1 : wrap64 (i + 1) = i + 1 := w64 (by omega) (by omega)
    have hw2 : wrap64 (i + 1 + bt s i) = i + 1 + bt s i := w64 (by omega) (by omega)
    by_cases hlong : i + 1 + bt s i > s.size
    · refine ⟨[], fun k hk => ?_⟩
      obtain ⟨k, rfl⟩ : ∃ m, k = m + 1 := ⟨k - 1, by omega⟩
      have hb : lbBad (s.extract i.toNat s.size) = true := by
        unfold lbBad; rw [hb0, hts]
        have : ((s.size - i.toNat : Nat) : Int) ≤ bt s i := by omega
        simp [this]
      rw [ostiaryref04_Labels.l0, if_neg (by omega), if_pos h0, if_pos (by omega), hw, if_neg hz, if_neg h63, hw1, hw2, if_pos hlong, if_pos hb]
      simp
    have hb : ¬ lbBad (s.extract i.toNat s.size) = true := by
      unfold lbBad; rw [hb0, hts]
      simp
      omega
    have hrest : lbRest (s.extract i.toNat s.size) = s.extract (i + 1 + bt s i).toNat s.size := by
      unfold lbRest
      rw [hb0]
      have := tail_rest s i.toNat (i + 1 + bt s i).toNat (by omega)
      rw [← this]; congr 1; omega
    rw [if_neg hb, hrest]
    obtain ⟨L, hL⟩ := ih (acc ++ [s.extract (i + 1).toNat (i + 1 + bt s i).toNat]) (i + 1 + bt s i) kk (by omega) (by omega) (by omega) (by omega) (by simp; omega)
    refine ⟨L, fun k hk => ?_⟩
    obtain ⟨k, rfl⟩ : ∃ m, k = m + 1 := ⟨k - 1, by omega⟩
    rw [ostiaryref04_Labels.l0, if_neg (by omega), if_pos h0, if_pos (by omega), hw, if_neg hz, if_neg h63, hw1, hw2, if_neg hlong, if_pos (by omega), if_pos (by omega), if_pos (by omega), if_pos (by omega), hL k (by omega), List.all_cons, Bool.true_and]

/-- The document's Check of a name tells the same. -/
theorem ref_check {s : ByteArray} (hs : s.size ≤ 2000000) : ∃ c, name_Check.f s = some c ∧ ∀ k, s.size + 1 ≤ k → ostiaryref04_Check.f k s = some c := by
  obtain ⟨L, hL⟩ := ref_labels hs (s.size + 1) [] 0 (s.size + 1) (by omega) (by omega) (by simp) (by simp) (by simp)
  have e : s.extract (0 : Int).toNat s.size = s := ByteArray.extract_zero_size
  rw [e] at hL
  refine ⟨if (lbEvs (s.size + 1) s).all (·.2) = true then (if 255 < s.size then 3 else 0) else 4, ?_, fun k hk => ?_⟩
  · unfold name_Check.f name_Labels.f
    rw [if_pos hs]
    by_cases h : (lbEvs (s.size + 1) s).all (·.2) = true
    · by_cases h2 : 255 < s.size
      · simp [h, h2]
      · simp [h, h2]
    · simp [h]
  · unfold ostiaryref04_Check.f ostiaryref04_Labels.f
    rw [hL k hk]; rfl
theorem check_small {s : ByteArray} (h : name_Check.f s = some 0) : s.size ≤ 255 := by
  obtain ⟨a, _, _, h3, rfl⟩ := check_form h
  rw [strOfNums_size]; simp; omega

theorem front_first {s : ByteArray} (hs : s.size ≤ 2000000) : ∀ (M : Nat) (i : Int) (kk : Nat), 0 ≤ i → (s.size : Int) - i < M → (255 : Int) - i < kk → ∀ k, M + s.size + 1 ≤ k → ostiaryref06_front.l0 k s i = some ((firstL kk s i).getD (-1)) := by
  intro M
  induction M with
  | zero =>
    intro i kk h0 hM hkk k hk
    obtain ⟨k, rfl⟩ : ∃ m, k = m + 1 := ⟨k - 1, by omega⟩
    rw [ostiaryref06_front.l0, if_neg (by omega), firstL_stop kk (by omega)]; rfl
  | succ M ih =>
    intro i kk h0 hM hkk k hk
    obtain ⟨k, rfl⟩ : ∃ m, k = m + 1 := ⟨k - 1, by omega⟩
    by_cases hend : i < s.size
    · have hbt := bt_range s i
      have hw1 : wrap64 (i + 1) = i + 1 := w64 (by omega) (by omega)
      have hw2 : wrap64 (bt s i) = bt s i := w64 (by omega) (by omega)
      have hw3 : wrap64 (i + 1 + bt s i) = i + 1 + bt s i := w64 (by omega) (by omega)
      rw [ostiaryref06_front.l0, if_pos hend, if_pos h0, hw1, hw2, hw3]
      by_cases hz : bt s i = 0
      · rw [if_pos hz, if_pos (by omega), if_pos (by omega)]
        have hsz : (s.extract 0 (i + 1).toNat).size = (i + 1).toNat := by rw [ByteArray.size_extract]; omega
        obtain ⟨c, hc1, hc2⟩ := ref_check (s := s.extract 0 (i + 1).toNat) (by rw [hsz]; omega)
        rw [hc2 k (by rw [hsz]; omega)]
        simp only [Option.bind_some]
        by_cases h255 : i < 255
        · obtain ⟨kk, rfl⟩ : ∃ m, kk = m + 1 := ⟨kk - 1, by omega⟩
          rw [firstL, if_pos (And.intro hend h255), if_pos hz, hc1]
          by_cases hc0 : c = 0
          · subst hc0; rw [if_pos rfl, if_pos rfl]; rfl
          · rw [if_neg hc0, if_neg (fun h => hc0 (Option.some.inj h))]; rfl
        · rw [firstL_stop kk (by omega), if_neg]
          · rfl
          · rintro rfl
            have := check_small hc1
            omega
      · rw [if_neg hz]
        by_cases h255 : i < 255
        · obtain ⟨kk, rfl⟩ : ∃ m, kk = m + 1 := ⟨kk - 1, by omega⟩
          rw [firstL, if_pos ⟨hend, h255⟩, if_neg hz, ih (i + 1 + bt s i) kk (by omega) (by omega) (by omega) k (by omega)]
          rw [show i + (1 + bt s i) = i + 1 + bt s i by omega]
        · rw [firstL_stop kk (by omega), ih (i + 1 + bt s i) 0 (by omega) (by omega) (by omega) k (by omega), firstL_stop 0 (by omega)]
    · rw [ostiaryref06_front.l0, if_neg hend, firstL_stop kk (by omega)]; rfl
theorem front_f {s : ByteArray} (hs : s.size ≤ 2000000) {k : Nat} (hk : 2 * s.size + 2 ≤ k) : ostiaryref06_front.f k s = some ((firstN s).getD (-1)) :=
  front_first hs (s.size + 1) 0 256 (by omega) (by omega) (by omega) k (by omega)

theorem texts_same {s : ByteArray} (hs : s.size ≤ 2000000) : ∀ (M : Nat) (i : Int), 0 ≤ i → i ≤ s.size → s.size - i.toNat < M → ∀ k kk, M < k → M ≤ kk → ostiaryref06_texts.l0 k s i = some (textsL kk s i) := by
  intro M
  induction M with
  | zero => intro i _ _ h; omega
  | succ M ih =>
    intro i h0 h1 hM k kk hk hkk
    obtain ⟨k, rfl⟩ : ∃ m, k = m + 2 := ⟨k - 2, by omega⟩
    obtain ⟨kk, rfl⟩ : ∃ m, kk = m + 1 := ⟨kk - 1, by omega⟩
    have hbt := bt_range s i
    rw [ostiaryref06_texts.l0, textsL]
    by_cases hend : i < s.size
    · rw [if_pos hend, if_pos h0, if_pos hend, w64 (x := i + 1) (by omega) (by omega), w64 (x := bt s i) (by omega) (by omega), w64 (x := i + 1 + bt s i) (by omega) (by omega), show i + (1 + bt s i) = i + 1 + bt s i by omega]
      by_cases hl : (s.size : Int) < i + 1 + bt s i
      · have hne : ¬ s.toList = [] := fun h => by
          rw [ByteArray.toList_eq] at h
          have h3 := congrArg List.length h
          have e : s.data.toList.length = s.size := rfl
          rw [e, List.length_nil] at h3
          omega
        rw [if_pos hl, ostiaryref06_texts.l0, if_neg (by omega), if_neg hne]
        congr 1
        simp; omega
      · rw [if_neg hl]
        exact ih _ (by omega) (by omega) (by omega) _ _ (by omega) (by omega)
    · rw [if_neg hend, if_neg hend]
      have e : s.data.toList.length = s.size := rfl
      by_cases h0 : s.size = 0
      · have : s.toList = [] := by rw [ByteArray.toList_eq]; exact List.eq_nil_of_length_eq_zero (by rw [e, h0])
        rw [if_pos this, h0]; rfl
      · have : ¬ s.toList = [] := fun h => by
          rw [ByteArray.toList_eq] at h
          have h3 := congrArg List.length h
          rw [e, List.length_nil] at h3
          omega
        rw [if_neg this, show i = (s.size : Int) by omega]
        simp [h0]
theorem texts_f {s : ByteArray} (hs : s.size ≤ 2000000) {k : Nat} (hk : s.size + 2 ≤ k) : ostiaryref06_texts.f k s = some (textsB s) :=
  texts_same hs (s.size + 1) 0 (by omega) (by omega) (by simp) k (s.size + 1) (by omega) (by omega)

/-- A part in the document's form. -/
def fm (p : S119) : Int := if p.f2 = true then -2 else if p.f1 = true then -1 else p.f0
def formL (t : Int) : List Int := match partsL t with | some ps => ps.map fm | none => [-3]
theorem form_f (t : Int) {k : Nat} (hk : 1 ≤ k) : ostiaryref06_form.f k t = some (formL t) := by
  obtain ⟨k, rfl⟩ : ∃ m, k = m + 1 := ⟨k - 1, by omega⟩
  unfold ostiaryref06_form.f formL partsL
  by_cases h1 : t = 1; · subst h1; rfl
  by_cases h2 : t = 28; · subst h2; rfl
  by_cases h3 : t = 2; · subst h3; rfl
  by_cases h4 : t = 5; · subst h4; rfl
  rw [if_neg h1, if_neg h2, if_neg h3, if_neg h4]
  by_cases h5 : t = 12; · subst h5; rfl
  have e : (t == 12) = false := by simpa using h5
  rw [e, ostiaryref06_form.j0, if_neg (by decide)]
  by_cases h6 : t = 15; · subst h6; rfl
  by_cases h7 : t = 6; · subst h7; rfl
  by_cases h8 : t = 16; · subst h8; rfl
  rw [if_neg h6, if_neg h7, if_neg h8, if_neg h8, if_neg h7, if_neg h6, if_neg h5, if_neg h4, if_neg h3, if_neg h2, if_neg h1]

def prAns : Option (List S124 × ByteArray) → List ByteArray × Bool
  | none => ([], false)
  | some (o, r) => (o.map (·.f0), decide (r.size = 0))
theorem rd_mid (pre : List Int) (x : Int) (post : List Int) : rd (pre ++ x :: post) (pre.length : Int) = x := by
  unfold rd; simp
theorem empty_dec (s : ByteArray) : (s.toList == ([] : List UInt8)) = decide (s.size = 0) := by
  rw [ByteArray.toList_eq]
  have e : s.data.toList.length = s.size := rfl
  by_cases h : s.size = 0
  · rw [List.eq_nil_of_length_eq_zero (l := s.data.toList) (by rw [e, h]), h]; rfl
  · rw [decide_eq_false h]
    cases hl : s.data.toList with
    | nil => rw [hl] at e; simp at e; omega
    | cons a l => rfl
theorem parts_loop (S : Nat) (hS : S ≤ 2000000) : ∀ (ps : List S119) (pre : List Int) (s : ByteArray) (acc : List S124), (∀ p ∈ ps, (p.f2 = true → p.f1 = false) ∧ 0 ≤ p.f0) → s.size ≤ S → acc.length + ps.length ≤ 100 → pre.length + ps.length ≤ 100 →
    ∀ k, 2 * S + 5 + 2 * ps.length ≤ k → ostiaryref06_Parts.l0 k s (pre ++ ps.map fm) (acc.map (·.f0)) pre.length = some (prAns (splitGo ps s acc))
  | [], pre, s, acc, _, hs, _, _, k, hk => by
    obtain ⟨k, rfl⟩ : ∃ m, k = m + 1 := ⟨k - 1, by omega⟩
    rw [ostiaryref06_Parts.l0, if_neg (by simp), splitGo, prAns, empty_dec]
  | p :: ps, pre, s, acc, hp, hs, ha, hpl, k, hk => by
    have hps : ∀ q ∈ ps, (q.f2 = true → q.f1 = false) ∧ 0 ≤ q.f0 := fun q hq => hp q (List.mem_cons_of_mem _ hq)
    have hp1 := hp p List.mem_cons_self
    simp only [List.length_cons] at hk ha hpl
    have next : ∀ (n : Int), 0 ≤ n → n ≤ s.size → ∀ k, 2 * S + 5 + 2 * ps.length ≤ k →
        ostiaryref06_Parts.l0 k (s.extract n.toNat s.size) (pre ++ (p :: ps).map fm) (acc.map (·.f0) ++ [s.extract 0 n.toNat]) (wrap64 ((pre.length : Int) + 1)) = some (prAns (splitGo ps (s.extract n.toNat s.size) (acc ++ [⟨s.extract 0 n.toNat, p.f1⟩]))) := fun n hn0 hn1 k hk => by
      have h := parts_loop S hS ps (pre ++ [fm p]) (s.extract n.toNat s.size) (acc ++ [⟨s.extract 0 n.toNat, p.f1⟩]) hps (by rw [ByteArray.size_extract]; omega) (by simp; omega) (by simp; omega) k hk
      have e1 : pre ++ [fm p] ++ ps.map fm = pre ++ (p :: ps).map fm := by simp
      have e2 : ((pre ++ [fm p]).length : Int) = wrap64 ((pre.length : Int) + 1) := by rw [w64 (by omega) (by omega)]; simp
      rw [e1, e2, List.map_append] at h
      exact h
    obtain ⟨k, rfl⟩ : ∃ m, k = m + 2 := ⟨k - 2, by omega⟩
    have hrd : rd (pre ++ (p :: ps).map fm) (pre.length : Int) = fm p := by rw [List.map_cons, rd_mid]
    have hacl : (acc.map (·.f0)).length < 8796093022208 := by rw [List.length_map]; omega
    rw [ostiaryref06_Parts.l0, if_pos (by simp; omega), if_pos (by omega), hrd, splitGo]
    unfold fm
    by_cases f2 : p.f2 = true
    · have f1 := hp1.1 f2
      rw [if_pos f2, if_pos f2, if_neg (by decide), if_pos rfl, texts_f (by omega) (by omega)]
      simp only [Option.bind_some]
      by_cases ht : textsB s = true
      · rw [if_pos ht, if_pos ht, ostiaryref06_Parts.j1, if_pos rfl, if_neg (by omega), if_neg (by omega), if_pos (by omega), if_pos (by omega), if_pos hacl]
        exact next (s.size : Int) (by omega) (by omega) k (by omega)
      · rw [if_neg ht, if_neg ht, ostiaryref06_Parts.j1, if_neg (by decide), if_pos (by decide)]
        rfl
    · rw [if_neg f2, if_neg f2]
      by_cases f1 : p.f1 = true
      · rw [if_pos f1, if_pos f1, if_pos rfl, front_f (by omega) (by omega)]
        simp only [Option.bind_some]
        cases hf : firstN s with
        | none => rw [Option.getD_none, if_pos (by decide)]; rfl
        | some m =>
          have hm := firstN_bound hf
          rw [Option.getD_some, if_neg (by omega), if_neg (by omega), if_pos (by omega), if_pos (by omega), if_pos hacl]
          exact next m (by omega) (by omega) (k + 1) (by omega)
      · have hf0 := hp1.2
        rw [if_neg f1, if_neg f1, if_neg (by omega), if_neg (by omega), show (p.f0 == (-3 : Int)) = false by simp; omega, ostiaryref06_Parts.j1, if_neg (by decide), if_neg (by omega)]
        by_cases hs2 : (s.size : Int) < p.f0
        · rw [if_pos (by omega), if_pos hs2]; rfl
        · rw [if_neg (by omega), if_neg hs2, if_pos (by omega), if_pos (by omega), if_pos hacl]
          exact next p.f0 (by omega) (by omega) k (by omega)
end Go.Proofs.Ytjjbhpbmfpodeaa.PB
end
section
namespace Go.Proofs.Ytjjbhpbmfpodeaa.X
open Go.RowKit Go.Proofs.YtjjbhpbmfpodeaaW.PrintWords Go.Proofs.YtjjbhpbmfpodeaaW.PrintLast Go.Proofs.YtjjbhpbmfpodeaaW.PrintMore
attribute [local go_sem] max2_int min2_int max_two min_two max_three min_three max_four min_four   -- for this text's walks alone
set_option linter.unusedVariables false
set_option linter.unusedSimpArgs false

end Go.Proofs.Ytjjbhpbmfpodeaa.X
end
section
namespace Go.Proofs.Ytjjbhpbmfpodeaa.X
open Go.RowKit Go.Proofs.YtjjbhpbmfpodeaaW.PrintWords Go.Proofs.YtjjbhpbmfpodeaaW.PrintLast Go.Proofs.YtjjbhpbmfpodeaaW.PrintMore
attribute [local go_sem] max2_int min2_int max_two min_two max_three min_three max_four min_four   -- for this text's walks alone
set_option linter.unusedVariables false
set_option linter.unusedSimpArgs false

end Go.Proofs.Ytjjbhpbmfpodeaa.X
end
section
namespace Go.Proofs.Ytjjbhpbmfpodeaa.PB
open Go.RowKit Go.Proofs.Ytjjbhpbmfpodeaa.X Go.Proofs.YtjjbhpbmfpodeaaW.PrintWords Go.Proofs.YtjjbhpbmfpodeaaW.PrintLast
set_option linter.unusedVariables false
set_option linter.unusedSimpArgs false

/-- x stands in l from place k on. -/
def Here (l : List Int) (k : Nat) (x : List Int) : Prop := ∃ u v, l = u ++ x ++ v ∧ u.length = k
theorem Here.len {l : List Int} {k : Nat} {x : List Int} (h : Here l k x) : k + x.length ≤ l.length := by
  obtain ⟨u, v, rfl, rfl⟩ := h
  simp only [List.length_append]; omega
theorem Here.append {l : List Int} {k : Nat} {x : List Int} (h : Here l k x) (m : List Int) : Here (l ++ m) k x := by
  obtain ⟨u, v, rfl, rfl⟩ := h
  exact ⟨u, v ++ m, by simp, rfl⟩
theorem Here.left {l : List Int} {k : Nat} {x y : List Int} (h : Here l k (x ++ y)) : Here l k x := by
  obtain ⟨u, v, rfl, rfl⟩ := h
  exact ⟨u, y ++ v, by simp, rfl⟩
theorem Here.right {l : List Int} {k : Nat} {x y : List Int} (h : Here l k (x ++ y)) : Here l (k + x.length) y := by
  obtain ⟨u, v, rfl, rfl⟩ := h
  exact ⟨u ++ x, v, by simp, by simp⟩
theorem Here.rd {l : List Int} {k : Nat} {c : Int} {x : List Int} (h : Here l k (c :: x)) : rd l (k : Int) = c := by
  obtain ⟨u, v, rfl, rfl⟩ := h
  unfold Go.Proofs.YtjjbhpbmfpodeaaW.PrintWords.rd
  simp
theorem Here.take {l : List Int} {k : Nat} {x : List Int} (h : Here l k x) : (l.drop k).take x.length = x := by
  obtain ⟨u, v, rfl, rfl⟩ := h
  rw [List.append_assoc, List.drop_left, List.take_left]

/-- Whole labels q and the root's byte stand in l from place k on, in n bytes there; a pointer there goes below m, and on from there. -/
inductive Stands (l : List Int) : Nat → Nat → List Int → Nat → Prop
  | lit (m k : Nat) : Here l k [0] → Stands l m k [] 1
  | lab (m k : Nat) (c : Int) (x q : List Int) (n : Nat) : 1 ≤ c → c ≤ 63 → (x.length : Int) = c → Here l k (c :: x) → Stands l m (k + (c :: x).length) q n → Stands l m k (c :: (x ++ q)) ((c :: x).length + n)
  | ptr (m k t : Nat) (q : List Int) (n : Nat) : Here l k (ptr t) → t < 16384 → t < m → Stands l t t q n → Stands l m k q 2

theorem Stands.append {l : List Int} {m k : Nat} {q : List Int} {n : Nat} (h : Stands l m k q n) (e : List Int) : Stands (l ++ e) m k q n := by
  induction h with
  | lit m k h => exact .lit m k (h.append e)
  | lab m k c x q n h1 h2 h3 h4 _ ih => exact .lab m k c x q n h1 h2 h3 (h4.append e) ih
  | ptr m k t q n h1 h2 h3 _ ih => exact .ptr m k t q n (h1.append e) h2 h3 ih
theorem Stands.mono {l : List Int} {m k : Nat} {q : List Int} {n : Nat} (h : Stands l m k q n) : ∀ {m' : Nat}, m ≤ m' → Stands l m' k q n := by
  induction h with
  | lit m k h => exact fun _ => .lit _ k h
  | lab m k c x q n h1 h2 h3 h4 _ ih => exact fun hm => .lab _ k c x q n h1 h2 h3 h4 (ih hm)
  | ptr m k t q n h1 h2 h3 h4 ih => exact fun hm => .ptr _ k t q n h1 h2 (by omega) h4
theorem Stands.lt {l : List Int} {m k : Nat} {q : List Int} {n : Nat} (h : Stands l m k q n) : k + n ≤ l.length ∧ 1 ≤ n := by
  induction h with
  | lit m k h => have := h.len; simp only [List.length_cons, List.length_nil] at this; omega
  | lab m k c x q n h1 h2 h3 h4 _ ih => omega
  | ptr m k t q n h1 h2 h3 h4 ih => have := h1.len; simp only [List.length_cons, List.length_nil, PB.ptr] at this; omega
/-- Each tail that is known stands at its place. -/
def Good (b : List Int) (L : List (ByteArray × Int)) : Prop := ∀ x ∈ L, ∃ (q : List Int) (t n : Nat), x = (strOfNums (q ++ [0]), (t : Int)) ∧ bytesB q = true ∧ q.length ≤ 254 ∧ t < 16384 ∧ Stands b t t q n
theorem Good.nil (b : List Int) : Good b [] := fun x h => by cases h
theorem Good.append {b : List Int} {L : List (ByteArray × Int)} (h : Good b L) (e : List Int) : Good (b ++ e) L := fun x hx => by
  obtain ⟨q, t, n, h1, h2, h3, h4, h5⟩ := h x hx
  exact ⟨q, t, n, h1, h2, h3, h4, h5.append e⟩
end Go.Proofs.Ytjjbhpbmfpodeaa.PB
end
section
namespace Go.Proofs.Ytjjbhpbmfpodeaa.PB
open Go.RowKit Go.Proofs.Ytjjbhpbmfpodeaa.X Go.Proofs.YtjjbhpbmfpodeaaW.PrintWords Go.Proofs.YtjjbhpbmfpodeaaW.PrintLast
set_option linter.unusedVariables false
set_option linter.unusedSimpArgs false

/-- The pieces stand in m from place k on, in n bytes there. -/
def PStand (m : List Int) : Nat → List S124 → Nat → Prop
  | _, [], n => n = 0
  | k, x :: xs, n => ∃ n1 n2, n = n1 + n2 ∧ PStand m (k + n1) xs n2 ∧ (if x.f1 = true then ∃ q, x.f0 = strOfNums (q ++ [0]) ∧ q.length ≤ 254 ∧ Stands m k k q n1 else Here m k (bytesOf x.f0) ∧ n1 = x.f0.size)
theorem PStand.append {m : List Int} (e : List Int) : ∀ {l : List S124} {k n : Nat}, PStand m k l n → PStand (m ++ e) k l n
  | [], k, n, h => h
  | x :: xs, k, n, h => by
    obtain ⟨n1, n2, h1, h2, h3⟩ := h
    refine ⟨n1, n2, h1, PStand.append e h2, ?_⟩
    by_cases f1 : x.f1 = true
    · rw [if_pos f1] at h3 ⊢
      obtain ⟨q, g1, g2, g3⟩ := h3
      exact ⟨q, g1, g2, g3.append e⟩
    · rw [if_neg f1] at h3 ⊢
      exact ⟨h3.1.append e, h3.2⟩
theorem Here.nil (m : List Int) (k : Nat) (h : k ≤ m.length) : Here m k [] := ⟨m.take k, m.drop k, by simp, by simp; omega⟩
theorem Here.cut {m : List Int} {k : Nat} {x : List Int} (h : Here m k x) : ((m.take ((k : Int) + x.length).toNat).drop (k : Int).toNat) = x := by
  obtain ⟨u, v, rfl, rfl⟩ := h
  have e : ((u.length : Int) + x.length).toNat = (u ++ x).length := by rw [List.length_append]; omega
  rw [e, List.take_left]
  simp
end Go.Proofs.Ytjjbhpbmfpodeaa.PB
end
section
namespace Go.Proofs.Ytjjbhpbmfpodeaa.PB
open Go.RowKit Go.Proofs.Ytjjbhpbmfpodeaa.X Go.Proofs.YtjjbhpbmfpodeaaW.PrintWords Go.Proofs.YtjjbhpbmfpodeaaW.PrintLast
set_option linter.unusedVariables false
set_option linter.unusedSimpArgs false

theorem prAns_sp (x : Option (List S124 × ByteArray)) : prAns x = ((spAns x).1.map (·.f0), (spAns x).2) := by
  cases x with
  | none => rfl
  | some y => rfl
theorem parts_f (t : Int) {s : ByteArray} (hs : s.size ≤ 2000000) {k : Nat} (hk : 2 * s.size + 20 ≤ k) : ostiaryref06_Parts.f k t s = some ((splitR t s).1.map (·.f0), (splitR t s).2) := by
  unfold ostiaryref06_Parts.f
  rw [form_f t (by omega)]
  simp only [Option.bind_some]
  unfold formL splitR
  cases hp : partsL t with
  | none =>
    obtain ⟨k, rfl⟩ : ∃ m, k = m + 3 := ⟨k - 3, by omega⟩
    have e1 : rd [(-3 : Int)] 0 = -3 := rfl
    have e2 : s.extract 0 (s.size : Int).toNat = s := ByteArray.extract_zero_size
    have e3 : (s.extract (s.size : Int).toNat s.size).size = 0 := by rw [ByteArray.size_extract]; simp
    have e4 : wrap64 ((0 : Int) + 1) = 1 := by rw [w64 (by decide) (by decide)]; rfl
    simp only []
    rw [ostiaryref06_Parts.l0, if_pos (by decide), if_pos (by decide), e1, if_neg (by decide), if_neg (by decide), show ((-3 : Int) == -3) = true from rfl, ostiaryref06_Parts.j1, if_pos rfl, if_neg (by omega), if_neg (by omega), if_pos (by omega), if_pos (by omega), if_pos (by decide), e4, ostiaryref06_Parts.l0, if_neg (by decide), e2, empty_dec, e3]
    rfl
  | some ps =>
    have hok := partsL_ok hp
    have := parts_loop s.size hs ps [] s [] (fun p hp => ⟨(hok.2 p hp).1, (hok.2 p hp).2.1⟩) (Nat.le_refl _) (by simp; omega) (by simp; omega) k (by omega)
    rw [List.nil_append, List.map_nil] at this
    simp only []
    have e : ostiaryref06_Parts.l0 k s (ps.map fm) [] 0 = some (prAns (splitGo ps s [])) := this
    rw [e, prAns_sp]

/-- The document's Check of data tells the same. -/
theorem rcheck_f {t : Int} {s : ByteArray} (hs : s.size ≤ 2000000) : ∃ c, (∀ k, 1 ≤ k → rdata_Check.f k t s = some c) ∧ ∀ k, 2 * s.size + 22 ≤ k → ostiaryref06_Check.f k t s = some c := by
  by_cases h1 : t < 0
  · refine ⟨5, fun k hk => ?_, fun k hk => ?_⟩
    · obtain ⟨k, rfl⟩ : ∃ m, k = m + 1 := ⟨k - 1, by omega⟩
      unfold rdata_Check.f; rw [if_pos h1, rdata_Check.j0, if_pos rfl]
    · obtain ⟨k, rfl⟩ : ∃ m, k = m + 1 := ⟨k - 1, by omega⟩
      unfold ostiaryref06_Check.f; rw [if_pos h1, ostiaryref06_Check.j0, if_pos rfl]
  by_cases h2 : t > 65535
  · refine ⟨5, fun k hk => ?_, fun k hk => ?_⟩
    · obtain ⟨k, rfl⟩ : ∃ m, k = m + 1 := ⟨k - 1, by omega⟩
      unfold rdata_Check.f; rw [if_neg h1, decide_eq_true h2, rdata_Check.j0, if_pos rfl]
    · obtain ⟨k, rfl⟩ : ∃ m, k = m + 1 := ⟨k - 1, by omega⟩
      unfold ostiaryref06_Check.f; rw [if_neg h1, decide_eq_true h2, ostiaryref06_Check.j0, if_pos rfl]
  by_cases h3 : (s.size : Int) > 65535
  · refine ⟨3, fun k hk => ?_, fun k hk => ?_⟩
    · obtain ⟨k, rfl⟩ : ∃ m, k = m + 1 := ⟨k - 1, by omega⟩
      unfold rdata_Check.f; rw [if_neg h1, decide_eq_false h2, rdata_Check.j0, if_neg (by decide), if_pos h3]
    · obtain ⟨k, rfl⟩ : ∃ m, k = m + 1 := ⟨k - 1, by omega⟩
      unfold ostiaryref06_Check.f; rw [if_neg h1, decide_eq_false h2, ostiaryref06_Check.j0, if_neg (by decide), if_pos h3]
  have hf : rdata_split.f t s = some (splitR t s) := by unfold rdata_split.f; exact if_pos ⟨WalkArith.wf_i64 (by omega), by omega⟩
  refine ⟨if (splitR t s).2 = true then 0 else 4, fun k hk => ?_, fun k hk => ?_⟩
  · obtain ⟨k, rfl⟩ : ∃ m, k = m + 1 := ⟨k - 1, by omega⟩
    unfold rdata_Check.f; rw [if_neg h1, decide_eq_false h2, rdata_Check.j0, if_neg (by decide), if_neg h3, hf]
    simp only [Option.bind_some]
    by_cases h : (splitR t s).2 = true
    · rw [if_pos h, if_pos h]
    · rw [if_neg h, if_neg h]
  · obtain ⟨k, rfl⟩ : ∃ m, k = m + 1 := ⟨k - 1, by omega⟩
    unfold ostiaryref06_Check.f; rw [if_neg h1, decide_eq_false h2, ostiaryref06_Check.j0, if_neg (by decide), if_neg h3, parts_f t hs (by omega)]
    simp only [Option.bind_some]
    by_cases h : (splitR t s).2 = true
    · rw [if_pos h, if_pos h]
    · rw [if_neg h, if_neg h]

/-- The pieces, and the parts that they are. -/
theorem go_align : ∀ (ps : List S119) (s : ByteArray) (acc o : List S124) (r : ByteArray), (∀ p ∈ ps, (p.f2 = true → p.f1 = false) ∧ 0 ≤ p.f0) → splitGo ps s acc = some (o, r) →
    o.map (·.f1) = acc.map (·.f1) ++ ps.map (fun p => decide (fm p = -1))
  | [], s, acc, o, r, _, h => by
    rw [splitGo] at h; injection h with h; injection h with h1 h2; subst h1; simp
  | p :: ps, s, acc, o, r, hp, h => by
    have hps : ∀ q ∈ ps, (q.f2 = true → q.f1 = false) ∧ 0 ≤ q.f0 := fun q hq => hp q (List.mem_cons_of_mem _ hq)
    have hp1 := hp p List.mem_cons_self
    have e : p.f1 = decide (fm p = -1) := by
      unfold fm
      by_cases f2 : p.f2 = true
      · rw [if_pos f2, hp1.1 f2]; rfl
      · rw [if_neg f2]
        by_cases f1 : p.f1 = true
        · rw [if_pos f1, f1]; rfl
        · rw [if_neg f1, decide_eq_false (by omega)]; simpa using f1
    rw [splitGo] at h
    split at h
    · cases h
    · have := go_align ps _ _ _ _ hps h
      rw [this, List.map_append, List.map_cons, List.map_nil, List.map_cons, e]; simp
theorem form_align {t : Int} {s : ByteArray} (h : (splitR t s).2 = true) : (splitR t s).1.map (·.f1) = (formL t).map (fun x => decide (x = -1)) := by
  unfold splitR formL at *
  cases hp : partsL t with
  | none => rfl
  | some ps =>
    rw [hp] at h
    simp only [] at h ⊢
    have hok := partsL_ok hp
    cases hs : splitGo ps s [] with
    | none => rw [hs] at h; cases h
    | some y =>
      obtain ⟨o, r⟩ := y
      have := go_align ps s [] o r (fun p hp => ⟨(hok.2 p hp).1, (hok.2 p hp).2.1⟩) hs
      simp only [spAns]
      rw [this]; simp
theorem align_at {fl : List Int} {l : List S124} (h : l.map (·.f1) = fl.map (fun x => decide (x = -1))) {i : Nat} (hi : i < l.length) : i < fl.length ∧ (rd fl (i : Int) = -1 ↔ l[i].f1 = true) := by
  have hl := congrArg List.length h
  rw [List.length_map, List.length_map] at hl
  have h2 : (l.map (·.f1))[i]? = (fl.map (fun x => decide (x = -1)))[i]? := by rw [h]
  rw [List.getElem?_map, List.getElem?_map, List.getElem?_eq_getElem hi, List.getElem?_eq_getElem (by omega)] at h2
  simp only [Option.map_some, Option.some.injEq] at h2
  refine ⟨by omega, ?_⟩
  have e : rd fl (i : Int) = fl[i]'(by omega) := by unfold rd; rw [Int.toNat_natCast, List.getD_eq_getElem?_getD, List.getElem?_eq_getElem (by omega)]; rfl
  rw [e, h2]
  simp

theorem rlower_loop (fl : List Int) (l : List S124) (hal : l.map (·.f1) = fl.map (fun x => decide (x = -1))) (hl : l.length < 1000) : ∀ (k i : Nat) (acc : ByteArray), l.length - i < k → i ≤ l.length → acc.size + (cat (l.drop i)).size ≤ 100000000000 →
    ostiaryref06_Lower.l0 k fl (l.map (·.f0)) acc (i : Int) = some (acc ++ cat ((l.drop i).map lowP))
  | 0, i, acc, h, _, _ => by omega
  | k + 1, i, acc, h, hi, hs => by
    rw [ostiaryref06_Lower.l0]
    by_cases h1 : i < l.length
    · obtain ⟨a1, a2⟩ := align_at hal h1
      have hd : l.drop i = l[i] :: l.drop (i + 1) := List.drop_eq_getElem_cons h1
      have hr : rdOf ByteArray.empty (l.map (·.f0)) (i : Int) = l[i].f0 := by unfold rdOf; rw [Int.toNat_natCast, List.getD_eq_getElem?_getD, List.getElem?_map, List.getElem?_eq_getElem h1]; rfl
      rw [hd, cat_cons, ByteArray.size_append] at hs
      have hw : wrap64 ((i : Int) + 1) = ((i + 1 : Nat) : Int) := by rw [w64 (by omega) (by omega)]; omega
      rw [if_pos (by rw [List.length_map]; omega), if_pos (by omega), if_pos (by omega), hr, hw, hd, List.map_cons, cat_cons]
      by_cases f1 : l[i].f1 = true
      · have e : (lowP l[i]).f0 = lowS l[i].f0 := by unfold lowP; rw [if_pos f1]
        have hrl : ostiaryref04_Lower.f l[i].f0 = some (lowS l[i].f0) := lower_f (by omega)
        rw [if_pos (a2.2 f1), hrl]
        simp only [Option.bind_some]
        rw [if_pos (by rw [lowS_size]; omega), rlower_loop fl l hal hl k (i + 1) _ (by omega) (by omega) (by rw [ByteArray.size_append, lowS_size]; omega), e, ByteArray.append_assoc]
      · have e : (lowP l[i]).f0 = l[i].f0 := by unfold lowP; rw [if_neg f1]
        rw [if_neg (fun h => f1 (a2.1 h)), if_pos (by omega), rlower_loop fl l hal hl k (i + 1) _ (by omega) (by omega) (by rw [ByteArray.size_append]; omega), e, ByteArray.append_assoc]
    · rw [if_neg (by rw [List.length_map]; omega), List.drop_eq_nil_of_le (by omega)]
      show some acc = some (acc ++ ⟨#[]⟩)
      rw [ba_app0]

/-- Data with names are short. -/
theorem go_size : ∀ (ps : List S119) (s : ByteArray) (acc o : List S124) (r : ByteArray), (∀ p ∈ ps, p.f2 = false ∧ 0 ≤ p.f0 ∧ p.f0 ≤ 100) → splitGo ps s acc = some (o, r) → s.size ≤ r.size + 255 * ps.length
  | [], s, acc, o, r, _, h => by
    rw [splitGo] at h; injection h with h; injection h with h1 h2; subst h2; simp
  | p :: ps, s, acc, o, r, hp, h => by
    have hps : ∀ q ∈ ps, q.f2 = false ∧ 0 ≤ q.f0 ∧ q.f0 ≤ 100 := fun q hq => hp q (List.mem_cons_of_mem _ hq)
    obtain ⟨f2, q0, q1⟩ := hp p List.mem_cons_self
    rw [splitGo, if_neg (by rw [f2]; simp)] at h
    by_cases f1 : p.f1 = true
    · rw [if_pos f1] at h
      cases hf : firstN s with
      | none => rw [hf] at h; cases h
      | some m =>
        rw [hf] at h
        simp only [] at h
        have hm := firstN_bound hf
        have hc := check_small (firstN_check hf)
        rw [ByteArray.size_extract] at hc
        have := go_size ps _ _ _ _ hps h
        rw [ByteArray.size_extract] at this
        simp only [List.length_cons]; omega
    · rw [if_neg f1] at h
      by_cases hs : (s.size : Int) < p.f0
      · rw [if_pos hs] at h; cases h
      · rw [if_neg hs] at h
        simp only [] at h
        have := go_size ps _ _ _ _ hps h
        rw [ByteArray.size_extract] at this
        simp only [List.length_cons]; omega
theorem partsL_two {t : Int} {ps : List S119} (h : partsL t = some ps) : (0 ≤ t ∧ t ≤ 65535) ∧ (ps = [⟨0, false, true⟩] ∨ ∀ p ∈ ps, p.f2 = false) := by
  unfold partsL at h
  by_cases h1 : t = 16
  · rw [if_pos h1] at h; injection h with h; exact ⟨by omega, .inl h.symm⟩
  rw [if_neg h1] at h
  have : ∀ p ∈ ps, p.f2 = false := by
    repeat' (split at h; · injection h with h; subst h; intro p hp; simp at hp; (first | (rcases hp with rfl | rfl | rfl <;> rfl) | (rcases hp with rfl | rfl <;> rfl) | (subst hp; rfl)))
    cases h
  refine ⟨?_, .inr this⟩
  repeat' (split at h; · omega)
  cases h
/-- Long data, or those of a type that may not be, have no names. -/
theorem low_long {t : Int} {s : ByteArray} (h : (splitR t s).2 = true) (hl : ¬ (0 ≤ t ∧ t ≤ 65535) ∨ 65535 < s.size) : lowR t s = s := by
  have hc := (splitR_low h).1
  unfold lowR
  rw [if_pos h]
  have : ∀ x ∈ (splitR t s).1, lowP x = x := by
    have hal := form_align h
    cases hp : partsL t with
    | none =>
      unfold splitR
      rw [hp]
      intro x hx
      simp only [List.mem_singleton] at hx
      subst hx; rfl
    | some ps =>
      obtain ⟨g1, g2⟩ := partsL_two hp
      have hok := partsL_ok hp
      rcases g2 with g2 | g2
      · have e : formL t = [-2] := by unfold formL; rw [hp, g2]; rfl
        rw [e] at hal
        intro x hx
        have h2 : x.f1 ∈ (splitR t s).1.map (·.f1) := List.mem_map_of_mem hx
        rw [hal] at h2
        simp at h2
        unfold lowP; rw [h2]; rfl
      · exfalso
        unfold splitR at h
        rw [hp] at h
        simp only [] at h
        cases hs : splitGo ps s [] with
        | none => rw [hs] at h; cases h
        | some y =>
          obtain ⟨o, r⟩ := y
          rw [hs] at h
          have hr : r.size = 0 := of_decide_eq_true h
          have := go_size ps s [] o r (fun p hp => ⟨g2 p hp, (hok.2 p hp).2⟩) hs
          have := hok.1
          omega
  rw [List.map_congr_left this, List.map_id']
  exact hc.symm

/-- The document's Lower of data tells the same. -/
theorem rlower_f {t : Int} {s : ByteArray} (hs : s.size ≤ 2000000) {k : Nat} (hk : 2 * s.size + 22 ≤ k) : ostiaryref06_Lower.f k t s = some (lowR t s) := by
  obtain ⟨c, hc1, hc2⟩ := rcheck_f (t := t) hs
  unfold ostiaryref06_Lower.f
  rw [form_f t (by omega), parts_f t hs (by omega), hc2 k hk]
  simp only [Option.bind_some]
  obtain ⟨k, rfl⟩ : ∃ m, k = m + 1 := ⟨k - 1, by omega⟩
  by_cases h0 : c = 0
  · rw [if_pos h0]
    obtain ⟨_, _, _, h3, _⟩ := check_zero (hc1 1 (Nat.le_refl _) ▸ (by rw [h0]) : rdata_Check.f 1 t s = some 0)
    rw [h3, ostiaryref06_Lower.j0, if_neg (by decide)]
    have hn := splitR_len t s
    have := rlower_loop (formL t) (splitR t s).1 (form_align h3) (by omega) k 0 ⟨#[]⟩ (by omega) (by omega) (by
      rw [List.drop_zero, ← (splitR_low h3).1]; show 0 + s.size ≤ _; omega)
    rw [Int.ofNat_zero] at this
    rw [this, List.drop_zero, ba_0app]
    unfold lowR
    rw [if_pos h3]
  · rw [if_neg h0, ostiaryref06_Lower.j0, if_pos rfl]
    congr 1
    by_cases h3 : (splitR t s).2 = true
    · symm
      refine low_long h3 ?_
      by_cases h1 : 0 ≤ t ∧ t ≤ 65535
      · right
        refine Nat.lt_of_not_le fun h => h0 ?_
        have := hc1 1 (Nat.le_refl _)
        have hf : rdata_split.f t s = some (splitR t s) := by unfold rdata_split.f; exact if_pos ⟨WalkArith.wf_i64 (by omega), by omega⟩
        unfold rdata_Check.f at this
        rw [if_neg (by omega), decide_eq_false (by omega), rdata_Check.j0, if_neg (by decide), if_neg (by omega), hf] at this
        simp only [Option.bind_some] at this
        rw [if_pos h3] at this
        injection this with this
        exact this.symm
      · exact .inl h1
    · unfold lowR; rw [if_neg h3]

theorem splitR_lenp {t : Int} {s : ByteArray} {ps : List S119} (hp : partsL t = some ps) (h : (splitR t s).2 = true) : (splitR t s).1.length = ps.length := by
  unfold splitR at h ⊢
  rw [hp] at h ⊢
  simp only [] at h ⊢
  cases hs : splitGo ps s [] with
  | none => rw [hs] at h; cases h
  | some y =>
    obtain ⟨o, r⟩ := y
    have := splitGo_len _ _ _ _ _ hs
    simpa [spAns] using this
/-- Data with names that fall into their parts may be. -/
theorem check_of_parts {t : Int} {s : ByteArray} {ps : List S119} (hp : partsL t = some ps) (h2 : ∀ p ∈ ps, p.f2 = false) (h : (splitR t s).2 = true) : rdata_Check.f 1 t s = some 0 := by
  obtain ⟨g1, _⟩ := partsL_two hp
  have hok := partsL_ok hp
  have hsz : s.size ≤ 65535 := by
    unfold splitR at h
    rw [hp] at h
    simp only [] at h
    cases hs : splitGo ps s [] with
    | none => rw [hs] at h; cases h
    | some y =>
      obtain ⟨o, r⟩ := y
      rw [hs] at h
      have hr : r.size = 0 := of_decide_eq_true h
      have := go_size ps s [] o r (fun p hp => ⟨h2 p hp, (hok.2 p hp).2⟩) hs
      have := hok.1
      omega
  unfold rdata_Check.f
  have hf : rdata_split.f t s = some (splitR t s) := by unfold rdata_split.f; exact if_pos ⟨WalkArith.wf_i64 (by omega), by omega⟩
  rw [if_neg (by omega), decide_eq_false (by omega), rdata_Check.j0, if_neg (by decide), if_neg (by omega), hf]
  simp only [Option.bind_some]
  rw [if_pos h]

/-- The document's Target tells the same. -/
theorem rtarget_f {t : Int} {s : ByteArray} (hs : s.size ≤ 2000000) {k : Nat} (hk : 2 * s.size + 22 ≤ k) : ∃ n b, (∀ k, 1 ≤ k → rdata_Target.f k t s = some (n, b)) ∧ ostiaryref06_Target.f k t s = some (n, b) := by
  obtain ⟨k, rfl⟩ : ∃ m, k = m + 1 := ⟨k - 1, by omega⟩
  by_cases h : isT t ∧ rdata_Check.f 1 t s = some 0
  · obtain ⟨l, x, h1, h2, h3, h4⟩ := target_yes 0 h.1 h.2
    have h4' : ∀ k, 1 ≤ k → rdata_Target.f k t s = some (x.f0, true) := fun k hk => by
      obtain ⟨k, rfl⟩ : ∃ m, k = m + 1 := ⟨k - 1, by omega⟩
      obtain ⟨l', x', g1, _, _, g4⟩ := target_yes k h.1 h.2
      rw [h1] at g1
      have e : x = x' := (List.cons.inj (List.append_inj' g1 rfl).2).1
      rw [e]; exact g4
    refine ⟨_, _, h4', ?_⟩
    obtain ⟨_, _, _, hsp, _⟩ := check_zero h.2
    unfold ostiaryref06_Target.f
    rw [parts_f t hs (by omega), hsp]
    simp only [Option.bind_some, if_true]
    have one : partsL t = some [⟨0, true, false⟩] → ostiaryref06_Target.j0 (k + 1) ((splitR t s).1.map (·.f0)) t true = some (x.f0, true) := fun hp => by
      have hl := splitR_lenp hp hsp
      rw [h1] at hl ⊢
      have : l = [] := by simp at hl; exact hl
      subst this
      rw [ostiaryref06_Target.j0, if_pos rfl, if_pos (by simp)]; rfl
    rcases h.1 with e | e | e | e
    · subst e; exact one rfl
    · subst e; exact one rfl
    · subst e; exact one rfl
    · subst e
      have hl := splitR_lenp (t := 15) (s := s) rfl hsp
      rw [h1] at hl ⊢
      obtain ⟨y, rfl⟩ : ∃ y, l = [y] := List.length_eq_one_iff.1 (by simp at hl; exact hl)
      rw [if_neg (by decide), if_neg (by decide), ostiaryref06_Target.j0, if_neg (by decide), if_pos rfl, if_pos (by simp)]; rfl
  · have h4' : ∀ k, 1 ≤ k → rdata_Target.f k t s = some (⟨#[]⟩, false) := fun k hk => by
      obtain ⟨k, rfl⟩ : ∃ m, k = m + 1 := ⟨k - 1, by omega⟩
      exact target_no k (by omega) h
    refine ⟨_, _, h4', ?_⟩
    unfold ostiaryref06_Target.f
    rw [parts_f t hs (by omega)]
    simp only [Option.bind_some]
    by_cases hsp : (splitR t s).2 = true
    · rw [if_pos hsp]
      have ht : ¬ isT t := fun ht => h ⟨ht, by
        rcases ht with e | e | e | e
        · subst e; exact check_of_parts (t := 2) rfl (by simp) hsp
        · subst e; exact check_of_parts (t := 5) rfl (by simp) hsp
        · subst e; exact check_of_parts (t := 12) rfl (by simp) hsp
        · subst e; exact check_of_parts (t := 15) rfl (by simp) hsp⟩
      have ht' : t ≠ 2 ∧ t ≠ 5 ∧ t ≠ 12 ∧ t ≠ 15 := by unfold isT at ht; omega
      rw [if_neg ht'.1, if_neg ht'.2.1, show (t == 12) = false by simpa using ht'.2.2.1, ostiaryref06_Target.j0, if_neg (by decide), if_neg ht'.2.2.2]
    · rw [if_neg hsp]

/-- The document's Address tells the same. -/
theorem addr_same {t : Int} {s : ByteArray} (hs : s.size ≤ 2000000) : addrR t s = raddrR t s := by
  unfold addrR raddrR
  by_cases h1 : t = 1
  · subst h1
    have e : rdata_Check.f 1 1 s = some 0 ↔ (s.size : Int) = 4 := by
      have key : (splitR 1 s).2 = true ↔ (s.size : Int) = 4 := by
        have hp : partsL 1 = some [⟨4, false, false⟩] := rfl
        unfold splitR
        rw [hp]
        simp only [splitGo, Bool.false_eq_true, if_false]
        by_cases h4 : (s.size : Int) < 4
        · rw [if_pos h4]; simp [spAns]; omega
        · rw [if_neg h4]
          simp only [spAns, decide_eq_true_eq]
          rw [ByteArray.size_extract]
          have : (4 : Int).toNat = 4 := rfl
          omega
      rw [← key]
      exact ⟨fun h => (check_zero h).2.2.2.1, fun h => check_of_parts (t := 1) rfl (by simp) h⟩
    by_cases h : (s.size : Int) = 4
    · rw [if_pos ⟨rfl, e.2 h⟩, if_pos ⟨rfl, h⟩]
    · rw [if_neg (fun g => h (e.1 g.2)), if_neg (fun g => h g.2)]
  · rw [if_neg (fun g => h1 g.1), if_neg (fun g => h1 g.1)]

theorem bytesOf_append (a b : ByteArray) : bytesOf (a ++ b) = bytesOf a ++ bytesOf b := by
  unfold bytesOf
  rw [ByteArray.data_append]; simp
theorem getR_tail {A B : List Int} {i : Int} (h0 : 0 ≤ i) (h1 : i + 4 ≤ B.length) : (getR (A ++ B) (A.length + i) 4).1 = (getR B i 4).1 := by
  unfold getR
  rw [if_neg (by simp; omega), if_neg (by simp; omega), if_neg (by omega), if_neg (by omega)]
  simp only []
  congr 2
  have : ((A.length : Int) + i).toNat = A.length + i.toNat := by omega
  rw [this, List.drop_append]
  simp
theorem soa_pieces {s : ByteArray} (h : (splitR 6 s).2 = true) : ∃ a b c, (splitR 6 s).1 = [a, b, c] ∧ c.f0.size = 20 := by
  have hl := splitR_lenp (t := 6) (s := s) rfl h
  have hp : partsL 6 = some [⟨0, true, false⟩, ⟨0, true, false⟩, ⟨20, false, false⟩] := rfl
  unfold splitR at h ⊢
  rw [hp] at h ⊢
  simp only [splitGo, Bool.false_eq_true, if_false, if_true] at h ⊢
  cases h1 : firstN s with
  | none => rw [h1] at h; cases h
  | some m =>
    rw [h1] at h
    simp only [] at h ⊢
    cases h2 : firstN (s.extract m.toNat s.size) with
    | none => rw [h2] at h; cases h
    | some m2 =>
      rw [h2] at h
      simp only [] at h ⊢
      split at h
      · rename_i e; split at e
        · cases h
        · cases e
      · rename_i n e
        split at e
        · cases e
        · rename_i hn
          injection e with e
          subst e
          refine ⟨_, _, _, rfl, ?_⟩
          simp only []
          rw [ByteArray.size_extract]
          have : (20 : Int).toNat = 20 := rfl
          omega

/-- The document's Least tells the same. -/
theorem least_same {t : Int} {s : ByteArray} (hs : s.size ≤ 2000000) {k : Nat} (hk : 2 * s.size + 22 ≤ k) : ostiaryref06_Least.f k t s = some (leastR t s) := by
  unfold ostiaryref06_Least.f
  rw [parts_f t hs (by omega)]
  simp only [Option.bind_some]
  unfold leastR
  by_cases h1 : t = 6
  · subst h1
    rw [if_pos rfl]
    by_cases hsp : (splitR 6 s).2 = true
    · have hc := check_of_parts (t := 6) (s := s) rfl (by simp) hsp
      obtain ⟨a, b, c, e, h20⟩ := soa_pieces hsp
      have hcat := (splitR_low hsp).1
      rw [e] at hcat
      rw [if_pos hsp, if_pos (And.intro rfl hc), e]
      have e2 : rdOf ByteArray.empty ([a, b, c].map (·.f0)) 2 = c.f0 := rfl
      rw [e2, if_pos ⟨by simp, by omega⟩]
      have e3 : bytesOf s = (bytesOf a.f0 ++ bytesOf b.f0) ++ bytesOf c.f0 := by
        rw [hcat, cat_cons, cat_cons, cat_cons]
        have : cat [] = ⟨#[]⟩ := rfl
        rw [this, ba_app0, bytesOf_append, bytesOf_append, List.append_assoc]
      have e4 : (s.size : Int) - 4 = ((bytesOf a.f0 ++ bytesOf b.f0).length : Int) + 16 := by
        have := congrArg List.length e3
        rw [bytesOf_len, List.length_append, bytesOf_len, h20] at this
        omega
      have e5 : (getR (bytesOf s) ((s.size : Int) - 4) 4).1 = (getR (bytesOf c.f0) 16 4).1 := by
        rw [e4, e3]
        exact getR_tail (by omega) (by rw [bytesOf_len, h20]; decide)
      rw [e5]
      rfl
    · rw [if_neg hsp, if_neg (fun g => hsp (check_zero g.2).2.2.2.1)]
  · rw [if_neg h1, if_neg (fun g => h1 g.1)]
end Go.Proofs.Ytjjbhpbmfpodeaa.PB
end
section
namespace Go.Proofs.Ytjjbhpbmfpodeaa.Pure
open Go.RowKit Go.Proofs.Ytjjbhpbmfpodeaa.X Go.Proofs.Ytjjbhpbmfpodeaa.PB Go.Proofs.YtjjbhpbmfpodeaaW.PrintWords Go.Proofs.YtjjbhpbmfpodeaaW.PrintLast

theorem RdataChecks : ostiarylaw06_RdataChecks.Pure := by
  intro t s ht _
  refine ⟨2 * s.size + 30, ?_⟩
  unfold ostiarylaw06_RdataChecks.f
  by_cases h1 : (s.size : Int) > 66000
  · rw [if_pos h1]
  rw [if_neg h1]
  have hs : s.size ≤ 2000000 := by omega
  obtain ⟨n, b, g1, g2⟩ := rtarget_f (t := t) hs (k := 2 * s.size + 30) (by omega)
  obtain ⟨c, hc1, hc2⟩ := rcheck_f (t := t) hs
  have ha : rdata_Address.f t s = some (addrR t s) := by unfold rdata_Address.f; exact if_pos ⟨ht, by omega⟩
  have hra : ostiaryref06_Address.f t s = some (addrR t s) := by unfold ostiaryref06_Address.f; rw [if_pos ⟨ht, by omega⟩, addr_same hs]
  have hl : rdata_Least.f t s = some (leastR t s) := by unfold rdata_Least.f; exact if_pos ⟨ht, by omega⟩
  rw [g1 _ (by omega), g2, ha, hra, hl, least_same hs (by omega), hc1 _ (by omega), hc2 _ (by omega), lower_f2 ht (by omega) (by omega), rlower_f hs (by omega), awake6 (by omega)]
  simp only [Option.bind_some, if_true, beq_self_eq_true]
end Go.Proofs.Ytjjbhpbmfpodeaa.Pure
end
section
namespace Go.Proofs.Ytjjbhpbmfpodeaa.Facts

theorem words_behind : ∀ (a r : List Char), (a.all fun c => c != Char.ofNat 32) = true → wordsSigns (a ++ Char.ofNat 32 :: r) = a :: wordsSigns r
  | [], r, _ => rfl
  | c :: a, r, h => by
    simp only [List.all_cons, Bool.and_eq_true, bne_iff_ne, ne_eq] at h
    have ih := words_behind a r (by simpa using h.2)
    have hc : c ≠ ' ' := h.1
    show wordsSigns (c :: (a ++ Char.ofNat 32 :: r)) = _
    rw [wordsSigns, ih]
    · exact hc

/-- The head line: a word, a sum, a word, the rest; laid out once. -/
structure Laid (L : List Char) : Prop where
  parts : L = L.take 7 ++ Char.ofNat 32 :: ((L.drop 8).take 64 ++ Char.ofNat 32 :: ((L.drop 73).take 3 ++ Char.ofNat 32 :: L.drop 77))
  one : L.take 7 = "harness".toList
  sum : isSumSigns ((L.drop 8).take 64) = true
  cut : (L.drop 73).take 3 = "cut".toList
  two : (((L.drop 8).take 64).all fun c => c != Char.ofNat 32) = true
set_option maxRecDepth 1000000 in
theorem head : ∃ L : List Char, Try.pinned.checked.prog.initOrder = String.ofList L ∧ Laid L :=
  ⟨_, rfl, ⟨by kernel_rfl, by kernel_rfl, by kernel_rfl, by kernel_rfl, by kernel_rfl⟩⟩
theorem words : ∃ s r, isSumSigns s = true ∧ wordsSigns Try.pinned.checked.prog.initOrder.toList = "harness".toList :: s :: "cut".toList :: r := by
  obtain ⟨L, e, h⟩ := head
  refine ⟨(L.drop 8).take 64, wordsSigns (L.drop 77), h.sum, ?_⟩
  rw [e, String.toList_ofList]
  have h1 := h.parts
  have h2 := h.one
  have h4 := h.cut
  rw [h2, h4] at h1
  rw [h1, words_behind _ _ (by decide +kernel), words_behind _ _ h.two, words_behind _ _ (by decide +kernel), ← h1]
theorem behind {s : List Char} (r : List (List Char)) (h : isSumSigns s = true) : behindMainWord ("harness".toList :: s :: r) = r := by
  unfold behindMainWord
  simp [h]
/-- What is asked of the words behind the sum, where the first of them is 'cut'. -/
def body (P : Program) (r : List (List Char)) : Bool :=
    ("cut".toList == "gc".toList || "cut".toList == "spec".toList) && (r.isEmpty || r.head? == some "stop".toList) ||
    ("cut".toList == "carried".toList && r.take 2 == ["gc".toList, "cut".toList] && !P.laysLater && !P.bearsReflect) ||
    ((stripLifts liftWords ("cut".toList :: r)).2.head? == some "cut".toList &&
      ((stripLifts liftWords ("cut".toList :: r)).1.contains "finals" || !P.laysLater) && ((stripLifts liftWords ("cut".toList :: r)).1.contains "reflectrows" || !P.bearsReflect) &&
      ((stripLifts liftWords ("cut".toList :: r)).1.contains "reflectrows" || !(stripLifts liftWords ("cut".toList :: r)).1.contains "leanrows") &&
      P.doorFits (stripLifts liftWords ("cut".toList :: r)).1)
theorem enter_of {P : Program} {s : List Char} {r : List (List Char)} (h : isSumSigns s = true) (e : wordsSigns P.initOrder.toList = "harness".toList :: s :: "cut".toList :: r) (k : body P r = true) : P.mayEnter = true := by
  unfold Program.mayEnter
  rw [e, behind _ h]
  exact k
theorem finals_of {P : Program} {s : List Char} {r : List (List Char)} (h : isSumSigns s = true) (e : wordsSigns P.initOrder.toList = "harness".toList :: s :: "cut".toList :: r) (k : (("cut".toList :: r).head? == some "carried".toList && ("cut".toList :: r).take 3 != ["carried".toList, "gc".toList, "cut".toList] || (stripLifts liftWords ("cut".toList :: r)).1.contains "finals") = false) : P.liftsFinal = false := by
  unfold Program.liftsFinal Program.headLifts
  rw [e, behind _ h]
  exact k
theorem make_of {P : Program} {s : List Char} {r : List (List Char)} (h : isSumSigns s = true) (e : wordsSigns P.initOrder.toList = "harness".toList :: s :: "cut".toList :: r) : P.make = some .cut := by
  unfold Program.make
  rw [e, behind _ h]
  rfl
theorem body_true (r : List (List Char)) : body Try.pinned.checked.prog r = true := by kernel_rfl
theorem mayEnter : Try.pinned.checked.prog.mayEnter = true := by
  obtain ⟨s, r, h, e⟩ := words
  exact enter_of h e (body_true r)
theorem finals : Try.pinned.checked.prog.liftsFinal = false := by
  obtain ⟨s, r, h, e⟩ := words
  exact finals_of h e (by kernel_rfl)
theorem make : Try.pinned.checked.prog.make = some .cut := by
  obtain ⟨s, r, h, e⟩ := words
  exact make_of h e
end Go.Proofs.Ytjjbhpbmfpodeaa.Facts
end
section
namespace Go.Proofs.Ytjjbhpbmfpodeaa.rdataChecks
open Go.ChangeShapes Go.WideShapes Go.ChangeAt Go.RowKit
open Go.ChangeMaps (open_string shut_string)
set_option linter.unusedVariables false
theorem own : ownKnob Try.prog.godebug = none := by kernel_rfl
set_option maxRecDepth 100000 in
theorem lifted (os : Os) (started : os.Started) (H : Type) (enc : TypeId × Value → H) :
    ReturnsInHanded {} Try.checked os 21 .any (Rows.rdataChecksSpec.pre6 enc Try.prog Try.f21 Rows.rdataChecksRow.domain false) (Rows.rdataChecksSpec.post enc Try.prog Try.f21 false true false false) := by
  refine returnsInHanded_of_change_sized (C := Try.checked) own started (by kernel_rfl) Try.func21
    (ChangeSpec.witness6 (enc := enc) (C := Try.checked) false ⟨#[], #[.int .i64 0, .string ByteArray.empty], []⟩ 8 (by kernel_rfl) (by kernel_rfl) (by kernel_rfl) (by kernel_rfl)) ?_
  intro W base args ds gs before hval0 hW hcnd hsz0 _
  have hsz : (DataW.weightsEach Try.prog (Try.f21.params.toList ++ Rows.rdataChecksSpec.plain.varTypes Try.prog) (ds ++ gs)).all (· ≤ reachBytes) = true := hsz0
  have hval : ∀ (j : Nat) t v, Try.f21.params[j]? = some t → args[j]? = some v → Value.okWide Try.prog W .any base t v := hval0
  have hW' := hW
  obtain ⟨p, q, hA0, hV, rfl, hfz, hnd⟩ := hW
  have hA : DataW.TrodAll enc Try.prog W 0 (fun _ => true) true Try.f21.params.toList args.toList ds p := hA0
  rw [Try.params21] at hA hval hsz
  obtain ⟨v0, vs0, d0, ds0, p0, q0, hargs, rfl, rfl, h0, r0⟩ := trodAll_cons hA
  obtain ⟨v1, vs1, d1, ds1, p1, q1, rfl, rfl, rfl, h1, r1⟩ := trodAll_cons r0
  obtain ⟨rfl, rfl, rfl⟩ := trodAll_nil r1
  obtain rfl : args = #[v0, v1] := by cases args; simp_all
  obtain ⟨rfl, rfl⟩ := trodVars_none hV
  obtain ⟨a0, rfl, rfl, rfl, w0⟩ := open_int Try.underlying3 (hval 0 3 v0 rfl rfl) h0
  obtain ⟨a1, rfl, rfl, rfl, y1⟩ := open_string Try.underlying9 (hval 1 9 v1 rfl rfl) h1
  have w1 : a1.size ≤ 140737488351232 := by
    have z := sized_string hsz (j := 1) (t := 9) rfl rfl
    rw [Array.length_toList] at z
    exact z
  clear hA0 hval0 hsz0 hsz
  refine (X.ostiarylaw06_RdataChecks.walk Pure.RdataChecks a0 a1 W w0 w1).mono fun e W' ⟨he, bel⟩ => ?_
  subst he
  exact ⟨_, rfl, _, _, _, [], _, [], hW', trodAll_mk1 (shut_bool Try.underlying4 _), (trodAll_cons_mk (shut_int Try.underlying3 w0) (trodAll_cons_mk (shut_string Try.underlying9 y1) trodAll_mk0)), rfl, bel.frame _, fun h => by cases h⟩
theorem facts : joinedFacts Try.pinned.checked.prog 21 Try.f21 Rows.rdataChecksSpec Rows.rdataChecksRow = true := by
  unfold joinedFacts
  simp only [Bool.and_eq_true]
  repeat' (refine And.intro ?_ ?_)
  all_goals first | (with_reducible exact Facts.mayEnter) | (rw [Facts.finals]; rfl) | (rw [Facts.make]; rfl) | (as_aux_lemma => kernel_rfl)
theorem over : Rows.rdataChecksRow.holds Try.pinned (OpenSpec.ofChange Rows.rdataChecksSpec) :=
  OpenClaim.holds_of_wide 21 Try.f21 rfl rfl rfl rfl rfl rfl rfl ⟨rfl, rfl, rfl, rfl, rfl⟩ rfl rfl rfl rfl rfl (by kernel_rfl) Try.func21 facts
    (of_decide_eq_true (by kernel_rfl)) (by unfold Func.isWrapper; first | (rw [if_pos (by decide +kernel)]; kernel_rfl) | (rw [if_neg (by decide +kernel)]; exact ⟨rfl, rfl⟩))
    (fun os started H enc _ => lifted os started H enc)
theorem proved : Rows.RdataChecksSaid := over
#print axioms proved
end Go.Proofs.Ytjjbhpbmfpodeaa.rdataChecks
namespace Go.Proofs.Ytjjbhpbmfpodeaa
/-- The row, under a short name, for the claim. -/
theorem rdataChecks_holds : Rows.RdataChecksSaid := rdataChecks.proved
end Go.Proofs.Ytjjbhpbmfpodeaa
end
