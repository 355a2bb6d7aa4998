/- A law of the document, proved of the program: its own texts (plain functions, the walks, plain lemmas, the row), one behind the other. Conditions: those in the theorems. Part 2 of 4. Laid by the session's program wip/merge.py. -/
import Derived.Test.YtjjbhpbmfpodeaaRows
import Derived.Test.YtjjbhpbmfpodeaaProg
import Derived.Below
import Derived.Deep.Draws
import Derived.Deep.AppendLies
import Derived.Maps.AppendAt
import Derived.OwnWalk
import Derived.Laws.BytesArg
import Derived.Laws.MakeOwn
import Derived.Laws.OwnMore
import Derived.Deep.OwnRows
import Derived.Tactics
import Derived.Lib.ConvBytes
import Derived.Laws.Slices
import Derived.WalkKit
import Derived.KernelRfl
import Derived.RowKit3
import Derived.Deep.LoopGhost
import Derived.Deep.QuietTactic
import Derived.BigQuiet
import Derived.WideLaws
import Derived.Deep.DeepCutAuto
import Derived.Deep.CutBlock
import Derived.Deep.RegionHeld3
import Derived.Laws.Rows
import Derived.Lib.AppendStr
import Derived.ArgAppend
import Derived.Laws.IdiomCopy
import Derived.OrdersHeld
import Derived.Laws.BitsLemmas
import Derived.RowKit
import Derived.Test.YtjjbhpbmfpodeaaWWords
import Derived.Test.YtjjbhpbmfpodeaaWLast
import Derived.Test.YtjjbhpbmfpodeaaWTab
import Derived.Test.YtjjbhpbmfpodeaaWFour
import Derived.Test.YtjjbhpbmfpodeaaWQPut
import Derived.Test.YtjjbhpbmfpodeaaWApart
import Derived.Test.YtjjbhpbmfpodeaaWArr
import Derived.Test.YtjjbhpbmfpodeaaWZeros
import Derived.Test.YtjjbhpbmfpodeaaWFoot
import Derived.Test.YtjjbhpbmfpodeaaWKept
import Derived.Test.YtjjbhpbmfpodeaaWShare
import Derived.Test.YtjjbhpbmfpodeaaWN
import Derived.Test.YtjjbhpbmfpodeaaWFootNe
import Derived.Test.YtjjbhpbmfpodeaaWAt
import Derived.Test.YtjjbhpbmfpodeaaWEqStruct
import Derived.Test.YtjjbhpbmfpodeaaWRepsOne
import Derived.Test.YtjjbhpbmfpodeaaWInv
import Derived.Test.YtjjbhpbmfpodeaaWInvWords
import Derived.Test.YtjjbhpbmfpodeaaWGuard
import Derived.Test.YtjjbhpbmfpodeaaWNEv
import Derived.Test.YtjjbhpbmfpodeaaWMore
import Derived.RangeFuncWrites
import Derived.RangeFuncLeaves
import Derived.RangeFuncBox
import Derived.Deep.WholeRow
import Derived.Deep.RegionHeld
import Derived.Laws.CopyRow
import Derived.OwnWalkIn
import Derived.TacticsInMore
import Derived.LoopNIn
import Derived.LoopIn
import Derived.Sort.QuietIn
import Derived.Recover
import Derived.Laws.Panics
import Derived.OpenShut
import Derived.Shelf.Abstract
import Derived.Shelf.RegionOpen
import Derived.Lib.AtoiErrMem
import Derived.Maps.OwnIn
import Derived.Maps.Views
import Derived.Sort.MapsRangeIn
import Derived.StringKeys
import Derived.WalkSmall
import Derived.RecoverIn
import Derived.Laws.Pointers
import Derived.BigRegionIn
import Derived.WalkMore
import Derived.ProofKit
import Derived.JoinedOf
import Derived.ShutString
import Derived.ChangeOld
import Derived.SizedLaws
import Derived.Test.YtjjbhpbmfpodeaaJRdataLowerA
section
namespace Go.Proofs.Ytjjbhpbmfpodeaa.X
open Go.RowKit Go.Maps Go.Proofs.YtjjbhpbmfpodeaaW.PrintWords Go.Proofs.YtjjbhpbmfpodeaaW.PrintLast Go.Proofs.YtjjbhpbmfpodeaaW.PrintMore
set_option linter.unusedVariables false
set_option linter.unusedSimpArgs false
attribute [local go_sem] Oper.semAt_some

def flat119 (xs : List S119) : List Value := xs.flatMap (fun x => [.int .i64 x.f0, .bool x.f1, .bool x.f2])
theorem reps119 (w : World) (base : Nat) (ok : Nat → Prop) : ∀ xs : List S119, Reps (k119.M w base ok) 3 xs (flat119 xs)
  | [] => Reps.none _ _
  | x :: xs => Reps.c3 (k119_mkM w base ok x) (reps119 w base ok xs)
theorem flat119_len (xs : List S119) : (flat119 xs).length = xs.length * 3 := by
  induction xs with
  | nil => rfl
  | cons x xs ih => simp only [flat119, List.flatMap_cons, List.length_append, List.length_cons, List.length_nil] at ih ⊢; omega
theorem R119_of_blk {w : World} {base g : Nat} {xs : List S119} (hg : base ≤ g) (hb : w.heap[g]? = some (.cells (flat119 xs).toArray 119 (0, 0))) (hl : xs.length ≤ 100) :
    Kd.R k119 119 w base (fun _ => True) (.slice (some ⟨g, 0, none⟩) xs.length xs.length) xs := by
  refine ⟨fun _ _ => trivial, flat119 xs, ⟨?_, .inr ⟨g, xs.length, _, rfl, hg, hb, Nat.le_refl _, by rw [maxLen_eq]; omega, by simp [flat119_len]; rfl, ?_⟩⟩, reps119 _ _ _ _⟩
  · exact flat119_len xs
  · show List.take (xs.length * 3) (flat119 xs) = _
    rw [← flat119_len, List.take_length]

/-- The parts of a type's data, if they are not any bytes. -/
def partsL (t : Int) : Option (List S119) :=
  if t = 16 then some [⟨0, false, true⟩] else if t = 6 then some [⟨0, true, false⟩, ⟨0, true, false⟩, ⟨20, false, false⟩] else if t = 15 then some [⟨2, false, false⟩, ⟨0, true, false⟩]
  else if t = 12 then some [⟨0, true, false⟩] else if t = 5 then some [⟨0, true, false⟩] else if t = 2 then some [⟨0, true, false⟩] else if t = 28 then some [⟨16, false, false⟩] else if t = 1 then some [⟨4, false, false⟩] else none
/-- What parts tells. -/
def rdata_parts.f (t : Int) : Option (List S119 × Bool) := if (Lit.int .i64 t).wf = true then some (match partsL t with | some l => (l, true) | none => ([], false)) else none

/-- The table, so far as it is filled. -/
structure Tb (w : World) (bm n : Nat) (tab : Int → Option (List S119)) (W : World) : Prop where
  below : Below w.heap.size w W
  lo : bm = w.heap.size + 1
  first : W.heap[w.heap.size]? = some (.cells #[.int .i64 0, .bool true, .bool false] 119 (0, 0))
  map : ∃ f sz, MapV intK W bm n f sz ∧ ∀ t, match tab t with
    | none => f t = none
    | some xs => ∃ g, f t = some (.slice (some ⟨g, 0, none⟩) xs.length xs.length) ∧ w.heap.size ≤ g ∧ g ≠ bm ∧ W.heap[g]? = some (.cells (flat119 xs).toArray 119 (0, 0))

theorem Tb.ins {w W : World} {bm n : Nat} {tab : Int → Option (List S119)} (h : Tb w bm n tab W) (hn : n ≤ 100) (s : Int) (hs : (Lit.int .i64 s).wf = true) (xs : List S119) :
    ∃ w', (Instr.mapUpdate 146 (.map (some bm)) (.int .i64 s) (.slice (some ⟨W.heap.size, 0, none⟩) xs.length xs.length)).run Try.prog (W.alloc (.cells (flat119 xs).toArray 119)) = .ok () w' ∧ Tb w bm (n + 1) (fun u => if u = s then some xs else tab u) w' := by
  obtain ⟨f, sz, hm, hf⟩ := h.map
  obtain ⟨w', hr, hm', hg⟩ := (hm.alloc (Obj.cells (flat119 xs).toArray 119)).update Try.underlying146 (s := s) (.slice (some ⟨W.heap.size, 0, none⟩) xs.length xs.length) hs (by rw [maxLen_eq]; omega)
  have hbm := hm.lt
  refine ⟨w', hr, (below_alloc h.below _).grown hg (by have := h.below.size; simp; omega) (fun j e => by injection e with e; have := h.lo; omega), h.lo, blk_grown (blk_alloc h.first _) hg (fun e => by injection e with e; have := h.lo; omega), _, _, hm', fun t => ?_⟩
  by_cases e : t = s
  · subst e
    simp only [if_pos rfl]
    exact ⟨W.heap.size, rfl, h.below.size, by omega, blk_grown (blk_new W _) hg (fun e => by injection e with e; omega)⟩
  · simp only [if_neg e]
    have := hf t
    cases ht : tab t with
    | none => rw [ht] at this; exact this
    | some ys =>
      rw [ht] at this
      obtain ⟨g, h1, h2, h3, h4⟩ := this
      exact ⟨g, h1, h2, h3, blk_grown (blk_alloc h4 _) hg (fun e => h3 (by injection e))⟩

theorem wpListIn_insert_T {F : Fence} {nF : Nat} {ops : Array Oper} {rest : List Oper} {o : Oper} {a : Act} {Q : Exit → Act → World → Prop} {w W : World} {bm n : Nat} {tab : Int → Option (List S119)}
    (hg : o.guard = none) (m x v : Operand) (hop : o.op = Op.insert 146 m x v) (h : Tb w bm n tab W) (hn : n ≤ 100) (s : Int) (hs : (Lit.int .i64 s).wf = true) (xs : List S119) (k : Nat) (cs : Array Value) (g : Nat)
    (hm : a.eval m = .map (some bm)) (hx : a.eval x = .int .i64 s) (hv : a.eval v = .slice (some ⟨g, 0, none⟩) k k) (hgg : g = W.heap.size) (hk : k = xs.length) (hcs : cs = (flat119 xs).toArray)
    (hK : ∀ w', Tb w bm (n + 1) (fun u => if u = s then some xs else tab u) w' → wpListIn F nF Try.prog ops Q rest (a.put o.dst undef) w') :
    wpListIn F nF Try.prog ops Q (o :: rest) a (W.alloc (.cells cs 119)) := by
  subst hgg hk hcs
  refine wpListIn_plain hg fun K' hK' => ?_
  obtain ⟨w', hrun, r1⟩ := h.ins hn s hs xs
  unfold Oper.wpIn
  refine ⟨by simp [Oper.about, hop], ?_⟩
  rw [Oper.semAt_plain F _ _ (by rw [hop]; intro c hc'; cases hc')]
  simp [execOp, hop, hm, hx, hv, hrun, Result.andThen]
  exact hK' _ _ (hK w' r1)
theorem zero115 (w : World) : (zeroValue 115).run Try.prog w = .ok (.slice none 0 0) w := by
  have h : (Try.prog.info? 115).map (fun i => (i.zero, i.size, i.bytes)) = some (some (.slice none 0 0), 1, 24) := by kernel_rfl
  obtain ⟨i, hi, hz, _⟩ := info_parts h
  simp [zeroValue, typeInfo, hi, hz, go_sem]
theorem Tb.start (w : World) : Tb w (w.heap.size + 1) 0 (fun _ => none) ((w.alloc (Obj.cells #[.int .i64 0, .bool true, .bool false] 119)).alloc (Obj.map #[] 0)) := by
  have hm := MapV.made (K := intK) (w.alloc (Obj.cells #[.int .i64 0, .bool true, .bool false] 119))
  rw [World.size_alloc] at hm
  exact ⟨below_alloc (below_alloc (Below.refl _ _) _) _, rfl, blk_alloc (blk_new w _) _, _, _, hm, fun t => rfl⟩
theorem Tb.first_ {w W : World} {bm n : Nat} {tab : Int → Option (List S119)} (h : Tb w bm n tab W) : W.cell? ⟨w.heap.size, 0, none⟩ = some (.int .i64 0) ∧ W.cell? ⟨w.heap.size, 1, none⟩ = some (.bool true) ∧ W.cell? ⟨w.heap.size, 2, none⟩ = some (.bool false) :=
  ⟨(blk_cell h.first 0).trans rfl, (blk_cell h.first 1).trans rfl, (blk_cell h.first 2).trans rfl⟩

set_option maxHeartbeats 8000000 in
set_option maxRecDepth 100000 in
theorem rdata_parts.in_ (n : Nat) (hn : 1 ≤ n) (t : Int) (ht : (Lit.int .i64 t).wf = true) (w : World) :
    CallsIn Fence.wide n Try.prog 96 #[.int .i64 t] w fun e w' => ∃ v, e = .returned (.tuple #[v, .bool (partsL t).isSome]) ∧ Kd.R k119 119 w' w.heap.size (fun _ => True) v ((partsL t).getD []) ∧ Below w.heap.size w w' := by
  have HWF := Aside0.mk ht
  have HT0 := Aside0.mk (Tb.start w)
  have hmm := @run_makeMap Try.prog
  clear ht
  refine callsIn_of_wp Try.func96 rfl trivial ?_ rfl
  simp only [Try.ntmps96, List.size_toArray, List.length_cons, List.length_nil, Nat.reduceAdd, Nat.reduceSub, Array.replicate_succ, Array.replicate_zero, List.push_toArray, List.append_toArray, List.nil_append, List.cons_append]
  gi_wp2_with (first
    | (refine wpListIn_insert_T rfl _ _ _ rfl HT0.out (by omega) 1 (by decide) [⟨4, false, false⟩] 1 _ _ rfl rfl rfl ?_ rfl rfl ?_; (first | rfl | simp); intro w1 hp; have HT1 := Aside0.mk hp; obtain ⟨k0, k1, k2⟩ := hp.first_; clear hp)
    | (refine wpListIn_insert_T rfl _ _ _ rfl HT1.out (by omega) 28 (by decide) [⟨16, false, false⟩] 1 _ _ rfl rfl rfl ?_ rfl rfl ?_; (first | rfl | simp); intro w2 hp; have HT2 := Aside0.mk hp; obtain ⟨k0, k1, k2⟩ := hp.first_; clear hp)
    | (refine wpListIn_insert_T rfl _ _ _ rfl HT2.out (by omega) 2 (by decide) [⟨0, true, false⟩] 1 _ _ rfl rfl rfl ?_ rfl rfl ?_; (first | rfl | simp); intro w3 hp; have HT3 := Aside0.mk hp; obtain ⟨k0, k1, k2⟩ := hp.first_; clear hp)
    | (refine wpListIn_insert_T rfl _ _ _ rfl HT3.out (by omega) 5 (by decide) [⟨0, true, false⟩] 1 _ _ rfl rfl rfl ?_ rfl rfl ?_; (first | rfl | simp); intro w4 hp; have HT4 := Aside0.mk hp; obtain ⟨k0, k1, k2⟩ := hp.first_; clear hp)
    | (refine wpListIn_insert_T rfl _ _ _ rfl HT4.out (by omega) 12 (by decide) [⟨0, true, false⟩] 1 _ _ rfl rfl rfl ?_ rfl rfl ?_; (first | rfl | simp); intro w5 hp; have HT5 := Aside0.mk hp; obtain ⟨k0, k1, k2⟩ := hp.first_; clear hp)
    | (refine wpListIn_insert_T rfl _ _ _ rfl HT5.out (by omega) 15 (by decide) [⟨2, false, false⟩, ⟨0, true, false⟩] 2 _ _ rfl rfl rfl ?_ rfl rfl ?_; (first | rfl | simp); intro w6 hp; have HT6 := Aside0.mk hp; obtain ⟨k0, k1, k2⟩ := hp.first_; clear hp)
    | (refine wpListIn_insert_T rfl _ _ _ rfl HT6.out (by omega) 6 (by decide) [⟨0, true, false⟩, ⟨0, true, false⟩, ⟨20, false, false⟩] 3 _ _ rfl rfl rfl ?_ rfl rfl ?_; (first | rfl | simp); intro w7 hp; have HT7 := Aside0.mk hp; obtain ⟨k0, k1, k2⟩ := hp.first_; clear hp)
    | (refine wpListIn_insert_T rfl _ _ _ rfl HT7.out (by omega) 16 (by decide) [⟨0, false, true⟩] 1 _ _ rfl rfl rfl ?_ rfl rfl ?_; (first | rfl | simp); intro w8 hp; have HT8 := Aside0.mk hp; obtain ⟨k0, k1, k2⟩ := hp.first_; clear hp; obtain ⟨f, sz, hmv, hft⟩ := HT8.out.map; have HFT := Aside0.mk hft; have hlk : (Instr.lookup 146 (.map (some (w.heap.size + 1))) (.int .i64 t) true).run Try.prog w8 = .ok (.tuple #[(f t).getD (.slice none 0 0), .bool (f t).isSome]) w8 := hmv.look Try.underlying146 (zero115 _) (s := t) HWF.out; clear hmv hft))
  go_ret2
  have h : (match partsL t with
    | none => f t = none
    | some xs => ∃ g, f t = some (.slice (some ⟨g, 0, none⟩) xs.length xs.length) ∧ w.heap.size ≤ g ∧ g ≠ w.heap.size + 1 ∧ w8.heap[g]? = some (.cells (flat119 xs).toArray 119 (0, 0))) := HFT.out t
  have hlen : ∀ xs, partsL t = some xs → xs.length ≤ 100 := fun xs h => by
    unfold partsL at h
    repeat' (split at h; · injection h with h; subst h; simp)
    cases h
  cases hp : partsL t with
  | none =>
    rw [hp] at h
    replace h : f t = none := h
    rw [h]
    exact ⟨_, rfl, Kd.R_nil _ _ _ _ _, HT8.out.below⟩
  | some xs =>
    rw [hp] at h
    obtain ⟨g, h1, h2, h3, h4⟩ := h
    rw [h1]
    exact ⟨_, rfl, R119_of_blk h2 h4 (hlen xs hp), HT8.out.below⟩

theorem rdata_parts.calls (t : Int) (ls : List S119) (b : Bool) (w : World) (h : rdata_parts.f t = some (ls, b)) :
    Calls Try.prog 96 #[.int .i64 t] w fun e w' => ∃ v0_ : Value, e = .returned (.tuple #[v0_, .bool b]) ∧ Kd.R k119 119 w' w.heap.size (fun _ => True) v0_ ls ∧ Below w.heap.size w w' := by
  unfold rdata_parts.f at h
  by_cases hw : (Lit.int .i64 t).wf = true
  · rw [if_pos hw] at h
    have := rdata_parts.in_ 1 (by omega) t hw w
    cases hp : partsL t with
    | none => rw [hp] at h this; injection h with h; cases h; exact callsIn_wide.1 this
    | some l => rw [hp] at h this; injection h with h; cases h; exact callsIn_wide.1 this
  · rw [if_neg hw] at h; cases h
end Go.Proofs.Ytjjbhpbmfpodeaa.X
end
section
namespace Go.Proofs.Ytjjbhpbmfpodeaa.PB
open Go.RowKit Go.Proofs.Ytjjbhpbmfpodeaa.X Go.Proofs.YtjjbhpbmfpodeaaW.PrintWords Go.Proofs.YtjjbhpbmfpodeaaW.PrintLast
set_option linter.unusedVariables false
set_option linter.unusedSimpArgs false

theorem str_of_bytes (s : ByteArray) : strOfNums (bytesOf s) = s := by
  apply ByteArray.ext
  apply Array.toList_inj.1
  rw [strOfNums_data]
  unfold bytesOf
  rw [List.map_map]
  conv => rhs; rw [← List.map_id s.data.toList]
  refine List.map_congr_left fun x _ => ?_
  simp
theorem bytesB_bytesOf (s : ByteArray) : bytesB (bytesOf s) = true := by
  simp only [bytesB, bytesOf, List.all_eq_true, decide_eq_true_eq, List.mem_map]
  rintro _ ⟨x, _, rfl⟩
  have := x.toNat_lt
  omega
theorem evs_form : ∀ (k : Nat) (l : List Int), bytesB l = true → l.length < k → (lbEvs k (strOfNums l)).all (·.2) = true → ∃ a, Lab a ∧ l = a ++ [0]
  | 0, l, _, h, _ => by omega
  | k + 1, l, hb, hk, h => by
    rw [lbEvs] at h
    by_cases hr : lbRoot (strOfNums l) = true
    · exact ⟨[], .nil, (lbRoot_str hb).1 hr⟩
    · rw [if_neg hr] at h
      by_cases hbad : lbBad (strOfNums l) = true
      · rw [if_pos hbad] at h; simp at h
      · rw [if_neg hbad] at h
        have hbf : lbBad (strOfNums l) = false := by simpa using hbad
        obtain ⟨h1, h2, h3, h4⟩ := lbRest_size hbf
        rw [bt_str hb, strOfNums_size] at h2
        rw [bt_str hb] at h3 h4
        simp only [List.all_cons, Bool.and_eq_true] at h
        have e : lbRest (strOfNums l) = strOfNums (l.drop (1 + (rd l 0).toNat)) := by
          unfold lbRest
          rw [bt_str hb, str_extract, strOfNums_size, List.take_of_length_le (by simp)]
        rw [e] at h h2
        rw [strOfNums_size] at h2
        obtain ⟨a, ha, hl⟩ := evs_form k _ (bytesB_drop _ hb) (by omega) h.2
        cases l with
        | nil => simp at h2
        | cons c r =>
          have hc : rd (c :: r) 0 = c := rfl
          rw [hc] at hl h3 h4 h2
          have e1 : (1 + c.toNat) = c.toNat + 1 := by omega
          rw [e1, List.drop_succ_cons] at hl h2
          refine ⟨c :: (r.take c.toNat ++ a), .cons c _ a (by omega) (by omega) ?_ ha, ?_⟩
          · rw [List.length_take]; simp only [List.length_cons, List.length_drop] at h2; omega
          · rw [List.cons_append, List.append_assoc, ← hl, List.take_append_drop]

/-- A name that may be is whole labels and the root's. -/
theorem check_form {s : ByteArray} (h : name_Check.f s = some 0) : ∃ a, Lab a ∧ bytesB a = true ∧ a.length ≤ 254 ∧ s = strOfNums (a ++ [0]) := by
  unfold name_Check.f name_Labels.f at h
  by_cases h0 : s.size ≤ 2000000
  · rw [if_pos h0] at h
    by_cases h1 : (lbEvs (s.size + 1) s).all (·.2) = true
    · rw [if_pos h1] at h
      by_cases h2 : 255 < s.size
      · rw [if_pos h2] at h; simp at h
      · rw [← str_of_bytes s] at h1
        have hb := bytesB_bytesOf s
        obtain ⟨a, ha, hl⟩ := evs_form _ _ hb (by rw [strOfNums_size]; omega) h1
        have hlen := congrArg List.length hl
        rw [bytesOf_length] at hlen
        simp at hlen
        refine ⟨a, ha, ?_, by omega, ?_⟩
        · rw [hl] at hb; exact (bytesB_append.1 hb).1
        · rw [← hl, str_of_bytes]
    · rw [if_neg h1] at h; simp at h
  · rw [if_neg h0] at h; simp at h

/-- Where a tail stood first. -/
def lookL (L : List (ByteArray × Int)) (s : ByteArray) : Option Int := (L.find? (fun p => decide (p.1 = s))).map (·.2)
theorem lookL_nil (s : ByteArray) : lookL [] s = none := rfl
theorem lookL_cons (x : ByteArray × Int) (L : List (ByteArray × Int)) (s : ByteArray) : lookL (x :: L) s = if x.1 = s then some x.2 else lookL L s := by
  unfold lookL
  rw [List.find?_cons]
  by_cases h : x.1 = s
  · simp [h]
  · simp [h]
theorem lookL_append (L M : List (ByteArray × Int)) (s : ByteArray) : lookL (L ++ M) s = (lookL L s).or (lookL M s) := by
  induction L with
  | nil => simp [lookL_nil]
  | cons x L ih =>
    rw [List.cons_append, lookL_cons, lookL_cons, ih]
    by_cases h : x.1 = s
    · simp [h]
    · simp [h]
theorem lookL_none {L : List (ByteArray × Int)} {s : ByteArray} : lookL L s = none ↔ s ∉ L.map (·.1) := by
  unfold lookL
  rw [Option.map_eq_none_iff, List.find?_eq_none]
  simp
  constructor
  · intro h a ha; exact h _ _ ha rfl
  · rintro h a b hab rfl; exact h b hab
theorem lookL_mem {L : List (ByteArray × Int)} {s : ByteArray} {k : Int} (h : lookL L s = some k) : (s, k) ∈ L := by
  induction L with
  | nil => cases h
  | cons x L ih =>
    rw [lookL_cons] at h
    by_cases e : x.1 = s
    · rw [if_pos e] at h; cases h; subst e; exact List.mem_cons_self
    · rw [if_neg e] at h; exact List.mem_cons_of_mem _ (ih h)

/-- The two bytes that point at a place. -/
def ptr (k : Int) : List Int := [192 + k / 256, k % 256]

/-- The bytes told, and the tails that are new, from the part p that is told already and the tail q on. -/
def pk (L : List (ByteArray × Int)) (a : Int) : Nat → List Int → List Int → List (ByteArray × Int) → List Int × List (ByteArray × Int)
  | 0, p, _, fr => (p ++ [0], fr)
  | _ + 1, p, [], fr => (p ++ [0], fr)
  | k + 1, p, c :: r, fr => match lookL L (strOfNums (c :: r ++ [0])) with
    | some t => (p ++ ptr t, fr)
    | none => pk L a k (p ++ c :: r.take c.toNat) (r.drop c.toNat) (if a + p.length < 16384 then fr ++ [(strOfNums (c :: r ++ [0]), a + p.length)] else fr)

/-- What a packer knows. -/
structure PS where
  L : List (ByteArray × Int)
  E : Int

/-- What a packer tells of a name at a place. c: what Check tells of the name. -/
def packF (S : PS) (a : Int) (n : ByteArray) (c : Int) : List Int × Int × PS :=
  if c ≠ 0 then ([], c, S) else if a < 0 ∨ 65535 < a then ([], 2, S) else if a < S.E then ([], 9, S) else
    ((pk S.L a 256 [] (bytesOf n).dropLast []).1, 0, ⟨S.L ++ (pk S.L a 256 [] (bytesOf n).dropLast []).2, a + (pk S.L a 256 [] (bytesOf n).dropLast []).1.length⟩)

/-- A packer's tails: each once, each at a place that a pointer tells. -/
structure Tails (L : List (ByteArray × Int)) : Prop where
  once : (L.map (·.1)).Nodup
  low : ∀ x ∈ L, 0 ≤ x.2 ∧ x.2 < 16384
  size : ∀ x ∈ L, x.1.size ≤ 255
theorem Tails.nil : Tails [] := ⟨by simp, by simp, by simp⟩
theorem Tails.append {L M : List (ByteArray × Int)} (hL : Tails L) (hM : Tails M) (hd : ∀ x ∈ M, lookL L x.1 = none) : Tails (L ++ M) :=
  ⟨by
    rw [List.map_append, List.nodup_append]
    refine ⟨hL.once, hM.once, ?_⟩
    rintro _ ha _ hb rfl
    obtain ⟨x, hx, hxa⟩ := List.mem_map.1 hb
    have := lookL_none.1 (hd x hx)
    rw [hxa] at this
    exact this ha, fun x hx => (List.mem_append.1 hx).elim (hL.low x) (hM.low x), fun x hx => (List.mem_append.1 hx).elim (hL.size x) (hM.size x)⟩

/-- What holds of the part, the tail and the new tails on the way. -/
structure PkWay (L : List (ByteArray × Int)) (p q : List Int) (fr : List (ByteArray × Int)) : Prop where
  lab : Lab q
  bytes : bytesB (p ++ q) = true
  len : p.length + q.length ≤ 254
  few : fr.length ≤ p.length
  tails : Tails fr
  long : ∀ x ∈ fr, q.length + 1 < x.1.size
  new : ∀ x ∈ fr, lookL L x.1 = none

theorem PkWay.fresh {L : List (ByteArray × Int)} {p q : List Int} {fr : List (ByteArray × Int)} (h : PkWay L p q fr) : lookL fr (strOfNums (q ++ [0])) = none := by
  rw [lookL_none]
  intro hm
  obtain ⟨x, hx, e⟩ := List.mem_map.1 hm
  have := h.long x hx
  rw [e, strOfNums_size] at this
  simp at this
theorem PkWay.step {L : List (ByteArray × Int)} {p r : List Int} {c : Int} {fr : List (ByteArray × Int)} (h : PkWay L p (c :: r) fr) {a : Int} (ha : 0 ≤ a) (hn : lookL L (strOfNums (c :: r ++ [0])) = none) :
    1 ≤ c ∧ c ≤ 63 ∧ c.toNat ≤ r.length ∧ PkWay L (p ++ c :: r.take c.toNat) (r.drop c.toNat) (if a + p.length < 16384 then fr ++ [(strOfNums (c :: r ++ [0]), a + p.length)] else fr) := by
  have hl := h.lab
  have hlen := h.len
  simp only [List.length_cons] at hlen
  cases hl with
  | cons c x r' h1 h2 h3 h4 =>
    have hc : c.toNat = x.length := by omega
    have e1 : (x ++ r').take c.toNat = x := by rw [hc, List.take_left]
    have e2 : (x ++ r').drop c.toNat = r' := by rw [hc, List.drop_left]
    refine ⟨h1, h2, by rw [List.length_append]; omega, ?_⟩
    rw [e1, e2]
    have hfr := h.fresh
    refine ⟨h4, ?_, ?_, ?_, ?_, ?_, ?_⟩
    · have := h.bytes; simpa using this
    · simp only [List.length_append, List.length_cons] at hlen ⊢; omega
    · have := h.few; split <;> simp <;> omega
    · split
      · rename_i hlow
        refine h.tails.append ⟨by simp, by simp; omega, ?_⟩ ?_
        · intro y hy
          simp only [List.mem_singleton] at hy
          subst hy
          rw [strOfNums_size]; simp only [List.length_append, List.length_cons, List.length_nil] at hlen ⊢; omega
        · intro y hy
          simp only [List.mem_singleton] at hy
          subst hy
          exact hfr
      · exact h.tails
    · have hlong : ∀ y ∈ fr, r'.length + 1 < y.1.size := fun y hy => by have := h.long y hy; simp only [List.length_append, List.length_cons] at this; omega
      split
      · intro y hy
        rcases List.mem_append.1 hy with hy | hy
        · exact hlong y hy
        · simp only [List.mem_singleton] at hy
          subst hy
          rw [strOfNums_size]; simp only [List.length_append, List.length_cons, List.length_nil]; omega
      · exact hlong
    · split
      · intro y hy
        rcases List.mem_append.1 hy with hy | hy
        · exact h.new y hy
        · simp only [List.mem_singleton] at hy
          subst hy
          exact hn
      · exact h.new
end Go.Proofs.Ytjjbhpbmfpodeaa.PB
end
section
namespace Go.Proofs.Ytjjbhpbmfpodeaa.X
open Go.RowKit Go.Proofs.Ytjjbhpbmfpodeaa.PB Go.Proofs.YtjjbhpbmfpodeaaW.PrintWords Go.Proofs.YtjjbhpbmfpodeaaW.PrintLast Go.Proofs.YtjjbhpbmfpodeaaW.PrintMore
set_option linter.unusedVariables false
set_option linter.unusedSimpArgs false
attribute [local go_sem] Oper.semAt_some

/-- How long the name is that some bytes begin with, from a place on. -/
def firstL : Nat → ByteArray → Int → Option Int
  | 0, _, _ => none
  | k + 1, s, i => if i < (s.size : Int) ∧ i < 255 then (if bt s i = 0 then (if name_Check.f (s.extract 0 (i + 1).toNat) = some 0 then some (i + 1) else none) else firstL k s (i + (1 + bt s i))) else none
theorem firstL_stop {s : ByteArray} {i : Int} (k : Nat) (h : ¬ (i < (s.size : Int) ∧ i < 255)) : firstL k s i = none := by
  cases k with
  | zero => rfl
  | succ k => rw [firstL, if_neg h]
def firstN (s : ByteArray) : Option Int := firstL 256 s 0
/-- The panic's value. -/
def unfit : PanicEntry := { v := .iface 148 (.agg #[]), recovered := false }
/-- How first ends. -/
def FirstEnd (s : ByteArray) : Option Int → Ending → Prop
  | some m, e => e = .returned (.string (s.extract 0 m.toNat))
  | none, e => e = .panicked [unfit]
theorem check_ok_some {s : ByteArray} (hs : s.size ≤ 2000000) : ∃ c, name_Check.f s = some c := by
  unfold name_Check.f name_Labels.f
  rw [if_pos hs]
  exact ⟨_, rfl⟩

set_option maxHeartbeats 8000000 in
set_option maxRecDepth 100000 in
theorem rdata_first.in_ (n : Nat) (hn : 3 ≤ n) (s : ByteArray) (hs : s.size ≤ 100000000000) (R : Option Int) (hR : firstN s = R) (w : World) :
    CallsIn Fence.wide n Try.prog 117 #[.string s] w fun e w' => FirstEnd s R e ∧ Below w.heap.size w w' := by
  have HR := Aside0.mk hR
  have HSZ := Aside0.mk hs
  clear hR hs
  refine callsIn_of_wp Try.func117 rfl trivial ?_ rfl
  simp only [Try.ntmps117, List.size_toArray, List.length_cons, List.length_nil, Nat.reduceAdd, Nat.reduceSub, Array.replicate_succ, Array.replicate_zero, List.push_toArray, List.append_toArray, List.nil_append, List.cons_append]
  gi_wp2
  gi_loopw [3] (fun p wr => ∃ (i : Int) (k : Nat), p = .int .i64 i ∧ 0 ≤ i ∧ Aside0 (firstL k s i = R ∧ 255 ≤ i + k) ∧ Aside0 (Below w.heap.size w wr)) (fun p _ => match p with | .int _ i => (300 - i).toNat | _ => 0)
  case atStart => exact ⟨0, 256, rfl, by omega, ⟨HR.out, by omega⟩, ⟨Below.refl _ _⟩⟩
  case round =>
    obtain ⟨i, k, rfl, h0, HK, HB⟩ := hrel
    have HI := Aside0.mk h0
    by_cases h1 : i < (s.size : Int)
    · have d1 : decide (i < (s.size : Int)) = true := decide_eq_true h1
      by_cases h2 : i < 255
      · have d2 : decide (i < 255) = true := decide_eq_true h2
        have hw1 : IntKind.i64.wrap (i + 1) = i + 1 := IntWalk.i64_in _ (by omega)
        have hix := str_ix s i h0 h1
        have hb := bt_range s i
        obtain ⟨c, hc⟩ : ∃ c, c = bt s i := ⟨_, rfl⟩
        rw [← hc] at hix hb
        obtain ⟨k', rfl⟩ : ∃ k', k = k' + 1 := ⟨k - 1, by have := HK.out.2; omega⟩
        have hk := HK.out.1
        rw [firstL, if_pos ⟨h1, h2⟩, ← hc] at hk
        by_cases hz : c = 0
        · subst hz
          rw [if_pos rfl] at hk
          have hto := str_to s (i + 1) (by omega) (by omega)
          obtain ⟨T, hT⟩ : ∃ T, T = s.extract 0 (i + 1).toNat := ⟨_, rfl⟩
          rw [← hT] at hto hk
          have hts : T.size ≤ 2000000 := by rw [hT, ByteArray.size_extract]; omega
          obtain ⟨e, he⟩ := check_ok_some hts
          have HE := Aside0.mk he
          rw [he] at hk
          have HTT := Aside0.mk hT
          have h255 := Aside0.mk h2
          by_cases hez : e = 0
          · subst hez
            rw [if_pos rfl] at hk
            have HKK := Aside0.mk hk
            clear hk he hT hts hb hc h1 h2 h0
            gi_wp2_with (first
              | (first | refine ⟨trivial, fun _ => by omega, ?_⟩ | refine ⟨trivial, ?_⟩); refine (callsIn_wide.2 (name_Check.calls T 0 _ HE.out)).mono ?_; rintro e w5 ⟨rfl, hb5⟩; have HB5 := Aside0.mk (HB.out.trans (hb5.mono HB.out.size)); clear hb5)
            go_ret
            refine ⟨?_, HB5.out⟩
            rw [← HKK.out, HTT.out]; rfl
          · have hez2 : (e == 0) = false := beq_eq_false_iff_ne.2 hez
            rw [if_neg (fun h => hez (by injection h))] at hk
            have HKK := Aside0.mk hk
            clear hk he hT hts hb hc h1 h2 h0 hez
            gi_wp2_with (first
              | (first | refine ⟨trivial, fun _ => by omega, ?_⟩ | refine ⟨trivial, ?_⟩); refine (callsIn_wide.2 (name_Check.calls T e _ HE.out)).mono ?_; rintro e w5 ⟨rfl, hb5⟩; have HB5 := Aside0.mk (HB.out.trans (hb5.mono HB.out.size)); clear hb5)
            rw [← HKK.out]
            exact ⟨rfl, rfl, HB5.out⟩
        · have hz2 : (c == 0) = false := beq_eq_false_iff_ne.2 hz
          rw [if_neg hz] at hk
          have hw0 : IntKind.i64.wrap c = c := IntWalk.i64_in _ (by omega)
          have hw2 : IntKind.i64.wrap (1 + c) = 1 + c := IntWalk.i64_in _ (by omega)
          have hw3 : IntKind.i64.wrap (i + (1 + c)) = i + (1 + c) := IntWalk.i64_in _ (by omega)
          have HKK : Aside0 (firstL k' s (i + (1 + c)) = R ∧ 255 ≤ i + (1 + c) + (k' : Int)) := ⟨hk, by have := HK.out.2; omega⟩
          have HCC : Aside0 (1 ≤ c) := ⟨by omega⟩
          have h255 := Aside0.mk h2
          clear hk hb hc h1 h2 h0 hz hw1
          gi_wp2
          exact ⟨⟨i + (1 + c), k', rfl, by have := HI.out; have := HCC.out; omega, HKK, HB⟩, by show (300 - (i + (1 + c))).toNat < (300 - i).toNat; have := HCC.out; have := h255.out; omega⟩
      · have d2 : decide (i < 255) = false := decide_eq_false h2
        have hk : R = none := HK.out.1.symm.trans (firstL_stop k (fun h => h2 h.2))
        have HKK := Aside0.mk hk
        clear hk h0 h1 h2
        gi_wp2
        rw [HKK.out]
        exact ⟨rfl, rfl, HB.out⟩
    · have d1 : decide (i < (s.size : Int)) = false := decide_eq_false h1
      have hk : R = none := HK.out.1.symm.trans (firstL_stop k (fun h => h1 h.1))
      have HKK := Aside0.mk hk
      clear hk h0 h1
      gi_wp2
      rw [HKK.out]
      exact ⟨rfl, rfl, HB.out⟩
end Go.Proofs.Ytjjbhpbmfpodeaa.X
end
section
namespace Go.Proofs.Ytjjbhpbmfpodeaa.X
open Go.RowKit Go.Proofs.YtjjbhpbmfpodeaaW.PrintWords Go.Proofs.YtjjbhpbmfpodeaaW.PrintLast Go.Proofs.YtjjbhpbmfpodeaaW.PrintMore
set_option linter.unusedVariables false
set_option linter.unusedSimpArgs false
attribute [local go_sem] Oper.semAt_some

/-- Are bytes, from a place on, texts up to the end? -/
def textsL : Nat → ByteArray → Int → Bool
  | 0, _, _ => false
  | k + 1, s, i => if i < (s.size : Int) then (if (s.size : Int) < i + (1 + bt s i) then false else textsL k s (i + (1 + bt s i))) else decide (s.size ≠ 0)
def textsB (s : ByteArray) : Bool := textsL (s.size + 1) s 0

set_option maxHeartbeats 8000000 in
set_option maxRecDepth 100000 in
theorem rdata_texts.in_ (n : Nat) (hn : 1 ≤ n) (s : ByteArray) (hs : s.size ≤ 100000000000) (R : Bool) (hR : textsB s = R) (w : World) :
    CallsIn Fence.wide n Try.prog 116 #[.string s] w fun e w' => e = .returned (.bool R) ∧ Below w.heap.size w w' := by
  have HR := Aside0.mk hR
  have HSZ := Aside0.mk hs
  have HE : Aside0 ((!s.toList.isEmpty) = decide (s.size ≠ 0)) := ⟨by
    rw [ByteArray.toList_eq]
    have h : s.data.toList.length = s.size := rfl
    cases hl : s.data.toList with
    | nil => rw [hl] at h; simp at h; simp [← h]
    | cons x r => rw [hl] at h; simp at h; simp [← h]⟩
  clear hR hs
  refine callsIn_of_wp Try.func116 rfl trivial ?_ rfl
  simp only [Try.ntmps116, List.size_toArray, List.length_cons, List.length_nil, Nat.reduceAdd, Nat.reduceSub, Array.replicate_succ, Array.replicate_zero, List.push_toArray, List.append_toArray, List.nil_append, List.cons_append]
  gi_wp2
  gi_loopw [3] (fun p wr => ∃ (i : Int) (k : Nat), p = .int .i64 i ∧ 0 ≤ i ∧ i ≤ (s.size : Int) ∧ Aside0 (textsL k s i = R ∧ (s.size : Int) < i + k) ∧ Aside0 (Below w.heap.size w wr)) (fun p _ => match p with | .int _ i => ((s.size : Int) - i).toNat | _ => 0)
  case atStart => exact ⟨0, s.size + 1, rfl, by omega, by omega, ⟨HR.out, by omega⟩, ⟨Below.refl _ _⟩⟩
  case round =>
    obtain ⟨i, k, rfl, h0, h00, HK, HB⟩ := hrel
    obtain ⟨k', rfl⟩ : ∃ k', k = k' + 1 := ⟨k - 1, by have := HK.out.2; omega⟩
    have hk := HK.out.1
    have HI := Aside0.mk h0
    by_cases h1 : i < (s.size : Int)
    · have d1 : decide (i < (s.size : Int)) = true := decide_eq_true h1
      have hix := str_ix s i h0 h1
      have hb := bt_range s i
      rw [textsL, if_pos h1] at hk
      obtain ⟨c, hc⟩ : ∃ c, c = bt s i := ⟨_, rfl⟩
      rw [← hc] at hix hb hk
      have hw0 : IntKind.i64.wrap c = c := IntWalk.i64_in _ (by omega)
      have hw2 : IntKind.i64.wrap (1 + c) = 1 + c := IntWalk.i64_in _ (by omega)
      have hw3 : IntKind.i64.wrap (i + (1 + c)) = i + (1 + c) := IntWalk.i64_in _ (by have := HSZ.out; omega)
      by_cases h2 : (s.size : Int) < i + (1 + c)
      · have d2 : decide ((s.size : Int) < i + (1 + c)) = true := decide_eq_true h2
        rw [if_pos h2] at hk
        have HKK := Aside0.mk hk
        clear hk hb hc h1 h2 h0 h00
        gi_wp2
        go_ret
        exact ⟨by rw [← HKK.out]; rfl, HB.out⟩
      · have d2 : decide ((s.size : Int) < i + (1 + c)) = false := decide_eq_false h2
        rw [if_neg h2] at hk
        have HKK := Aside0.mk hk
        have HCC : Aside0 (0 ≤ c ∧ i + (1 + c) ≤ (s.size : Int)) := ⟨by omega⟩
        clear hk hb hc h1 h2 h0 h00
        gi_wp2
        exact ⟨⟨i + (1 + c), k', rfl, by have := HI.out; have := HCC.out; omega, HCC.out.2, ⟨HKK.out, by have := HK.out.2; have := HCC.out; omega⟩, HB⟩, by show ((s.size : Int) - (i + (1 + c))).toNat < ((s.size : Int) - i).toNat; have := HCC.out; omega⟩
    · have d1 : decide (i < (s.size : Int)) = false := decide_eq_false h1
      rw [textsL, if_neg h1] at hk
      have HKK := Aside0.mk hk
      clear hk h1 h0 h00
      gi_wp2
      go_ret
      refine ⟨?_, HB.out⟩
      rw [← HKK.out, ← HE.out]; rfl
end Go.Proofs.Ytjjbhpbmfpodeaa.X
end
section
namespace Go.Proofs.Ytjjbhpbmfpodeaa.X
open Go.RowKit Go.Proofs.Ytjjbhpbmfpodeaa.PB Go.Proofs.YtjjbhpbmfpodeaaW.PrintWords Go.Proofs.YtjjbhpbmfpodeaaW.PrintLast Go.Proofs.YtjjbhpbmfpodeaaW.PrintMore
set_option linter.unusedVariables false
set_option linter.unusedSimpArgs false

theorem h148 : Try.prog.underlying 148 = some (.struct #[]) := by kernel_rfl
theorem info148 : (Try.prog.info? 148).map (fun i => (i.zero, i.size, i.bytes)) = some (some (.agg #[]), 0, 0) := by kernel_rfl
set_option maxRecDepth 100000 in
theorem ta97_nil (W : World) : (Instr.typeAssert Value.nilIface 20 148 true).run Try.prog W = .ok (.tuple #[.agg #[], .bool false]) W := by
  obtain ⟨i, hi, hz, _⟩ := info_parts info148
  simp [Instr.typeAssert, run_underlying h148, zeroValue, typeInfo, hi, hz]
set_option maxRecDepth 100000 in
theorem ta97_unfit (W : World) : (Instr.typeAssert (.iface 148 (.agg #[])) 20 148 true).run Try.prog W = .ok (.tuple #[.agg #[], .bool true]) W := by
  obtain ⟨i, hi, hz, _⟩ := info_parts info148
  simp [Instr.typeAssert, run_underlying h148]

set_option maxHeartbeats 4000000 in
set_option maxRecDepth 100000 in
theorem split1_idle (n b4 b5 : Nat) (w : World) :
    CallsDIn Fence.wide n Try.prog 115 #[.pointer (some ⟨b4, 0, none⟩), .pointer (some ⟨b5, 0, none⟩)] .returning w fun e u' w' => e = .returned (.tuple #[]) ∧ u' = .returning ∧ w' = w.alloc (.cells #[] 148) := by
  have ht := ta97_nil
  refine callsDIn_of_wpSIn Try.func115 rfl trivial fun c₀ cs hu => ?_
  apply wpSIn_seq
  apply wpSIn_region
  simp [wpOpsSIn, go_sem, recoverD, hu, Exit.thenS]
  simp only [Try.ntmps115, List.size_toArray, List.length_cons, List.length_nil, Nat.reduceAdd, Nat.reduceSub, Array.replicate_succ, Array.replicate_zero, List.push_toArray, List.append_toArray, List.nil_append, List.cons_append, List.setIfInBounds_toArray, List.set_cons_succ, List.set_cons_zero]
  refine wpSIn_of_wpIn rfl ?_
  gi_wp2
  cases c₀
  simp_all [bodyPostS, results, Try.results115]

set_option maxHeartbeats 4000000 in
set_option maxRecDepth 100000 in
theorem split1_catch (n b4 b5 : Nat) (w : World) (v4 v5 : Value) (hne : b4 ≠ b5) (h4 : w.heap[b4]? = some (.cells #[v4] 120 (0, 0))) (h5 : w.heap[b5]? = some (.cells #[v5] 4 (0, 0))) (older : List PanicEntry) :
    CallsDIn Fence.wide n Try.prog 115 #[.pointer (some ⟨b4, 0, none⟩), .pointer (some ⟨b5, 0, none⟩)] (.panicking ({ v := .iface 148 (.agg #[]), recovered := false } :: older)) w fun e u' w' =>
      e = .returned (.tuple #[]) ∧ u' = .panicking ({ v := .iface 148 (.agg #[]), recovered := true } :: older) ∧ w' = ((w.alloc (.cells #[] 148)).setCell ⟨b4, 0, none⟩ (.slice none 0 0)).setCell ⟨b5, 0, none⟩ (.bool false) := by
  have ht := ta97_unfit
  have g4 := blk_alloc h4 (.cells #[] 148)
  have g5 := blk_alloc h5 (.cells #[] 148)
  have e4 : (w.alloc (.cells #[] 148)).cell? ⟨b4, 0, none⟩ = some v4 := (blk_cell g4 0).trans rfl
  have z4 := blk_frozen g4 0
  have k5 := blk_far (p := ⟨b4, 0, none⟩) g5 (fun e => hne e.symm) (.slice none 0 0)
  have e5 : ((w.alloc (.cells #[] 148)).setCell ⟨b4, 0, none⟩ (.slice none 0 0)).cell? ⟨b5, 0, none⟩ = some v5 := (blk_cell k5 0).trans rfl
  have z5 := blk_frozen k5 0
  clear h4 h5 g4 g5 k5
  refine callsDIn_of_wpSIn Try.func115 rfl trivial fun c₀ cs hu => ?_
  apply wpSIn_seq
  apply wpSIn_region
  simp [wpOpsSIn, go_sem, recoverD, hu, Exit.thenS]
  simp only [Try.ntmps115, List.size_toArray, List.length_cons, List.length_nil, Nat.reduceAdd, Nat.reduceSub, Array.replicate_succ, Array.replicate_zero, List.push_toArray, List.append_toArray, List.nil_append, List.cons_append, List.setIfInBounds_toArray, List.set_cons_succ, List.set_cons_zero]
  refine wpSIn_of_wpIn rfl ?_
  gi_wp2
  cases c₀
  simp_all [bodyPostS, results, Try.results115]

/-- The pieces, part by part. -/
def splitGo : List S119 → ByteArray → List S124 → Option (List S124 × ByteArray)
  | [], s, out => some (out, s)
  | p :: ps, s, out =>
    match (if p.f2 = true then (if textsB s = true then some (s.size : Int) else none) else if p.f1 = true then firstN s else if (s.size : Int) < p.f0 then none else some p.f0) with
    | none => none
    | some n => splitGo ps (s.extract n.toNat s.size) (out ++ [⟨s.extract 0 n.toNat, p.f1⟩])
def spAns : Option (List S124 × ByteArray) → List S124 × Bool
  | none => ([], false)
  | some (o, r) => (o, decide (r.size = 0))
/-- What split tells. -/
def splitR (t : Int) (s : ByteArray) : List S124 × Bool :=
  match partsL t with
  | none => ([⟨s, false⟩], true)
  | some ps => spAns (splitGo ps s [])
def rdata_split.f (t : Int) (s : ByteArray) : Option (List S124 × Bool) := if (Lit.int .i64 t).wf = true ∧ s.size ≤ 100000000000 then some (splitR t s) else none

theorem results97 {tmps : Array Value} {w : World} {A B : Addr} {u v : Value} (hp : tmps.getD 4 undef = .pointer (some A)) (hq : tmps.getD 5 undef = .pointer (some B)) (hA : w.cell? A = some u) (hB : w.cell? B = some v) :
    (results Try.f97 tmps).run Try.prog w = .ok (.tuple #[u, v]) w := by
  have e1 : (loadVar 120 A).run Try.prog w = .ok u w := by simp [loadVar, go_sem, hA, Try.underlying120]
  have e2 : (loadVar 4 B).run Try.prog w = .ok v w := by simp [loadVar, go_sem, hB, Try.underlying4]
  simp only [Array.getD_eq_getD_getElem?] at hp hq
  have h : Try.f97.results = #[.cell 4 120, .cell 5 4] := rfl
  simp only [results, h]
  simp [Sem.run_bind, Result.andThen, hp, hq, asAddr, e1, e2]

def flat124 (xs : List S124) : List Value := xs.flatMap (fun x => [.string x.f0, .bool x.f1])
theorem reps124 (w : World) (base : Nat) (ok : Nat → Prop) : ∀ xs : List S124, Reps (k124.M w base ok) 2 xs (flat124 xs)
  | [] => Reps.none _ _
  | x :: xs => Reps.c2 (k124_mkM w base ok x) (reps124 w base ok xs)
theorem R124_of_own {w : World} {base : Nat} {v : Value} {xs : List S124} (h : w.ownsRow base 124 2 v xs.length (flat124 xs)) : Kd.R k124 124 w base (fun _ => True) v xs :=
  ⟨fun _ _ => trivial, flat124 xs, h, reps124 _ _ _ _⟩

theorem flat124_len (xs : List S124) : (flat124 xs).length = xs.length * 2 := by
  induction xs with
  | nil => rfl
  | cons x xs ih => simp only [flat124, List.flatMap_cons, List.length_append, List.length_cons, List.length_nil] at ih ⊢; omega
theorem own124 {w : World} {base g : Nat} {xs : List S124} (hg : base ≤ g) (hb : w.heap[g]? = some (.cells (flat124 xs).toArray 124 (0, 0))) (hl : xs.length ≤ 100) :
    w.ownsRow base 124 2 (.slice (some ⟨g, 0, none⟩) xs.length xs.length) xs.length (flat124 xs) := by
  refine ⟨flat124_len xs, .inr ⟨g, xs.length, _, rfl, hg, hb, Nat.le_refl _, by rw [maxLen_eq]; omega, by simp [flat124_len], ?_⟩⟩
  show List.take (xs.length * 2) (flat124 xs) = _
  rw [← flat124_len, List.take_length]
theorem firstL_range {s : ByteArray} : ∀ (k : Nat) (i : Int) {m : Int}, 0 ≤ i → firstL k s i = some m → 0 ≤ m ∧ m ≤ (s.size : Int)
  | 0, i, m, _, h => by cases h
  | k + 1, i, m, h0, h => by
    rw [firstL] at h
    have hb := bt_range s i
    by_cases h1 : i < (s.size : Int) ∧ i < 255
    · rw [if_pos h1] at h
      by_cases h2 : bt s i = 0
      · rw [if_pos h2] at h
        by_cases h3 : name_Check.f (s.extract 0 (i + 1).toNat) = some 0
        · rw [if_pos h3] at h; injection h with h; omega
        · rw [if_neg h3] at h; cases h
      · rw [if_neg h2] at h; exact firstL_range k _ (by omega) h
    · rw [if_neg h1] at h; cases h
theorem firstN_range {s : ByteArray} {m : Int} (h : firstN s = some m) : 0 ≤ m ∧ m ≤ (s.size : Int) := firstL_range 256 0 (by omega) h
theorem leaves_put {F : Fence} {P : Program} {fn : Func} {t t' : Array Value} {R : Ending → World → Prop} (he : ∀ w, (results fn t').run P w = (results fn t).run P w) : ∀ {ds : List Deferred} {n : Nat} {u : FrameMode} {w : World}, LeavesIn F n P fn t' R ds u w → LeavesIn F n P fn t R ds u w
  | [], n, u, w, h => by
    cases u with
    | run => exact h
    | returning => obtain ⟨v, h1, h2⟩ := h; exact ⟨v, (he w).symm.trans h1, h2⟩
    | panicking chain => exact h
  | d :: ds, n, u, w, h => by
    obtain ⟨h1, h2, fv, cap, f, args, h3, h4, h5, h6⟩ := h
    refine ⟨h1, h2, fv, cap, f, args, h3, h4, h5, h6.mono ?_⟩
    intro e u' w' h7
    cases e with
    | returned v => exact leaves_put he h7
    | panicked c => exact leaves_put he h7
    | outgrown => exact h7
theorem results_put (a : Act) (j : Nat) (v : Value) (h4 : j ≠ 4) (h5 : j ≠ 5) (w : World) : (results Try.f97 (a.put (some j) v).tmps).run Try.prog w = (results Try.f97 a.tmps).run Try.prog w := by
  have h : Try.f97.results = #[.cell 4 120, .cell 5 4] := rfl
  have e4 : (a.put (some j) v).tmps[4]? = a.tmps[4]? := Array.getElem?_setIfInBounds_ne h4
  have e5 : (a.put (some j) v).tmps[5]? = a.tmps[5]? := Array.getElem?_setIfInBounds_ne h5
  simp only [results, h, Array.getD_eq_getD_getElem?]
  simp [Sem.run_bind, Result.andThen, e4, e5]
theorem info124 : (Try.prog.info? 124).map (fun i => (i.zero, i.size, i.bytes)) = some (some (.agg #[.string ⟨#[]⟩, .bool false]), 2, 24) := by kernel_rfl
theorem step_append_124 {F : Fence} {n : Nat} {ops : Array Oper} {o : Oper} {a : Act} {Q : Exit → Act → World → Prop} {Kc : Act → World → Prop} {W : World} {B : Prop} (hw : Region.wanted o (yielded ops a.tmps) = true) (s x : Operand)
    (hop : o.op = Op.call { callee := Callee.builtin Builtin.append, args := #[s, x], argTypes := #[120, 120] }) (base : Nat) (v : Value) (xs : List S124) (p : S124) (g : Nat) (hs : a.eval s = v) (hx : a.eval x = .slice (some ⟨g, 0, none⟩) 1 1)
    (hb : W.heap[g]? = some (.cells #[.string p.f0, .bool p.f1] 124 (0, 0))) (hown : W.ownsRow base 124 2 v xs.length (flat124 xs)) (hbase : base ≤ W.heap.size) (hl : xs.length ≤ 100)
    (h : ∀ v' w', w'.ownsRow base 124 2 v' (xs.length + 1) (flat124 (xs ++ [p])) → W.grownBy w' v.ownBlock → Kc (a.put o.dst v') w') :
    if Region.wanted o (yielded ops a.tmps) = true then Oper.wpIn F n Try.prog o a W Kc Q else B := by
  rw [if_pos hw]
  obtain ⟨i, hi, hz, hsz, hby⟩ := info_parts info124
  have hnews : ∀ j u, [Value.string p.f0, Value.bool p.f1][j]? = some u → W.cell? ((⟨g, 0, none⟩ : Addr).add j) = some u := fun j u hu => by
    have e : (⟨g, 0, none⟩ : Addr).add j = ⟨g, j, none⟩ := by simp [Addr.add] <;> omega
    rw [e, blk_cell hb]; simpa using hu
  obtain ⟨v', w', hr, h2, h3, h4, h5⟩ := run_append_own_at (P := Try.prog) W base 120 o.type 124 i _ 2 24 Try.underlying120 hi hz hsz hby rfl (by decide) v xs.length (flat124 xs) hown ⟨g, 0, none⟩ 1 1 [.string p.f0, .bool p.f1] rfl hnews (by intro u hu; simp at hu; rcases hu with rfl | rfl <;> rfl) (by rw [maxLen_eq]; omega) (by omega) hbase
  unfold Oper.wpIn
  refine ⟨?_, ?_⟩
  · simp [Oper.about, hop, resolve, Target.leads, Sem.run_pure]
  · rw [Oper.semAt_plain F _ _ (by rw [hop]; intro c hc'; cases hc')]
    simp [execOp, hop, resolve, invoke, builtin, hs, hx, Result.andThen]
    erw [hr]
    refine h v' w' ?_ h3
    have e : flat124 (xs ++ [p]) = flat124 xs ++ [.string p.f0, .bool p.f1] := by simp [flat124]
    rw [e]; exact h2
/-- The two named results, in blocks of their own. -/
structure Rs (w W : World) (v4 v5 : Value) : Prop where
  b4 : W.heap[w.heap.size]? = some (.cells #[v4] 120 (0, 0))
  b5 : W.heap[w.heap.size + 1]? = some (.cells #[v5] 4 (0, 0))
  below : Below w.heap.size w W
theorem Rs.start (w : World) : Rs w ((w.alloc (Obj.cells #[.slice none 0 0] 120)).alloc (Obj.cells #[.bool false] 4)) (.slice none 0 0) (.bool false) :=
  ⟨blk_alloc (blk_new w _) _, by have := World.alloc_heap_new (w.alloc (Obj.cells #[.slice none 0 0] 120)) (Obj.cells #[.bool false] 4); rwa [World.size_alloc] at this, below_alloc (below_alloc (Below.refl _ _) _) _⟩
theorem Rs.next {w W W' : World} {v4 v5 : Value} (h : Rs w W v4 v5) (hb : Below W.heap.size W W') : Rs w W' v4 v5 :=
  ⟨blk_below h.b4 hb, blk_below h.b5 hb, h.below.trans (hb.mono h.below.size)⟩
theorem Rs.alloc {w W : World} {v4 v5 : Value} (h : Rs w W v4 v5) (o : Obj) : Rs w (W.alloc o) v4 v5 := h.next (below_alloc (Below.refl _ _) o)
theorem Rs.put4 {w W : World} {v4 v5 : Value} (h : Rs w W v4 v5) (u : Value) : Rs w (W.setCell ⟨w.heap.size, 0, none⟩ u) u v5 :=
  ⟨blk_put h.b4 0 u rfl, blk_far (p := ⟨w.heap.size, 0, none⟩) h.b5 (by simp) u, h.below.setCell (Nat.le_refl _) _⟩
theorem Rs.put5 {w W : World} {v4 v5 : Value} (h : Rs w W v4 v5) (u : Value) : Rs w (W.setCell ⟨w.heap.size + 1, 0, none⟩ u) v4 u :=
  ⟨blk_far (p := ⟨w.heap.size + 1, 0, none⟩) h.b4 (by simp) u, blk_put h.b5 0 u rfl, h.below.setCell (Nat.le_succ _) _⟩
theorem own_slice {w : World} {base e sz n : Nat} {v : Value} {xs : List Value} (h : w.ownsRow base e sz v n xs) : ∃ A m c, v = .slice A m c := by
  rcases h.2 with ⟨h0, _⟩ | ⟨g, cap, cur, hv, _⟩
  · exact ⟨_, _, _, h0⟩
  · exact ⟨_, _, _, hv⟩
theorem Rs.grown_ {w W W' : World} {v4 v5 : Value} {row : Option Nat} (h : Rs w W v4 v5) (hg : W.grownBy W' row) (h4 : some w.heap.size ≠ row) (h5 : some (w.heap.size + 1) ≠ row) (hr : ∀ j, row = some j → w.heap.size ≤ j) : Rs w W' v4 v5 :=
  ⟨blk_grown h.b4 hg h4, blk_grown h.b5 hg h5, h.below.grown hg h.below.size hr⟩
theorem own_form {w : World} {base e sz n : Nat} {v : Value} {xs : List Value} (h : w.ownsRow base e sz v n xs) (hn : 0 < n) : ∃ g cap, v = .slice (some ⟨g, 0, none⟩) n cap := by
  rcases h.2 with ⟨_, h0⟩ | ⟨g, cap, cur, hv, _⟩
  · omega
  · exact ⟨g, cap, hv⟩
theorem own_lo {w : World} {base e sz n : Nat} {v : Value} {xs : List Value} (h : w.ownsRow base e sz v n xs) : ∀ k, v.ownBlock = some k → base ≤ k := by
  intro k hk
  rcases h.2 with ⟨rfl, _⟩ | ⟨g, cap, cur, rfl, hg, _⟩
  · cases hk
  · have : g = k := by simpa [Value.ownBlock] using hk
    omega
theorem own_below_ {w w' : World} {base e sz n : Nat} {v : Value} {xs : List Value} (h : w.ownsRow base e sz v n xs) (hb : Below w.heap.size w w') : w'.ownsRow base e sz v n xs :=
  own_move h (fun k hk => by obtain ⟨cs, hc⟩ := own_typed h k hk; exact hb.block k (blk_lt hc))
theorem Rs.c4 {w W : World} {v4 v5 : Value} (h : Rs w W v4 v5) : W.cell? ⟨w.heap.size, 0, none⟩ = some v4 := (blk_cell h.b4 0).trans rfl
theorem Rs.c5 {w W : World} {v4 v5 : Value} (h : Rs w W v4 v5) : W.cell? ⟨w.heap.size + 1, 0, none⟩ = some v5 := (blk_cell h.b5 0).trans rfl
theorem Rs.z4 {w W : World} {v4 v5 : Value} (h : Rs w W v4 v5) : W.frozen? ⟨w.heap.size, 0, none⟩ = false := blk_frozen h.b4 0
theorem Rs.z5 {w W : World} {v4 v5 : Value} (h : Rs w W v4 v5) : W.frozen? ⟨w.heap.size + 1, 0, none⟩ = false := blk_frozen h.b5 0

set_option maxHeartbeats 8000000 in
set_option maxRecDepth 100000 in
theorem rdata_split.any (n : Nat) (hn : 5 ≤ n) (t : Int) (ht : (Lit.int .i64 t).wf = true) (hp : partsL t = none) (s : ByteArray) (w : World) :
    CallsIn Fence.wide n Try.prog 97 #[.int .i64 t, .string s] w fun e w' => ∃ v, e = .returned (.tuple #[v, .bool true]) ∧ w'.ownsRow w.heap.size 124 2 v 1 (flat124 [⟨s, false⟩]) ∧ Below w.heap.size w w' := by
  have HWF := Aside0.mk ht
  have HP := Aside0.mk hp
  have HS0 := Aside0.mk (Rs.start w)
  clear ht hp
  refine callsIn_of_wp_defers Try.func97 rfl trivial ?_
  simp only [Try.ntmps97, List.size_toArray, List.length_cons, List.length_nil, Nat.reduceAdd, Nat.reduceSub, Array.replicate_succ, Array.replicate_zero, List.push_toArray, List.append_toArray, List.nil_append, List.cons_append]
  gi_wp2_with (first
    | (first | refine ⟨trivial, fun _ => by omega, ?_⟩ | refine ⟨trivial, ?_⟩); refine (rdata_parts.in_ (n - 1) (by omega) t HWF.out _).mono ?_; rw [HP.out]; rintro e w1 ⟨v, rfl, hr, hb⟩; have HS1 := Aside0.mk ((HS0.out.next hb).alloc (.cells #[.string s, .bool false] 124)); have hw1 := blk_lt (HS0.out.next hb).b5; have HW1 := Aside0.mk hw1; have c4 := HS1.out.c4; have z4 := HS1.out.z4; have c5 := (HS1.out.put4 (.slice (some ⟨w1.heap.size, 0, none⟩) 1 1)).c5; have z5 := (HS1.out.put4 (.slice (some ⟨w1.heap.size, 0, none⟩) 1 1)).z5; clear hr hb hw1)
  have hS := (HS1.out.put4 (.slice (some ⟨w1.heap.size, 0, none⟩) 1 1)).put5 (.bool true)
  refine ⟨_, results97 rfl rfl hS.c4 hS.c5, _, rfl, ?_, hS.below⟩
  exact own124 (xs := [⟨s, false⟩]) (by have := HW1.out; omega) (blk_far (p := ⟨w.heap.size + 1, 0, none⟩) (blk_far (p := ⟨w.heap.size, 0, none⟩) (blk_new w1 _) (by have := HW1.out; simp; omega) _) (by have := HW1.out; simp; omega) _) (by simp)

set_option maxHeartbeats 16000000 in
set_option maxRecDepth 100000 in
theorem rdata_split.known (n : Nat) (hn : 5 ≤ n) (t : Int) (ht : (Lit.int .i64 t).wf = true) (ps : List S119) (hp : partsL t = some ps) (hl : ps.length ≤ 3) (hok : ∀ p ∈ ps, (p.f2 = true → p.f1 = false) ∧ 0 ≤ p.f0 ∧ p.f0 ≤ 100) (s : ByteArray) (hs : s.size ≤ 100000000000) (R : Option (List S124 × ByteArray)) (hR : splitGo ps s [] = R) (w : World) :
    CallsIn Fence.wide n Try.prog 97 #[.int .i64 t, .string s] w fun e w' => ∃ v, e = .returned (.tuple #[v, .bool (spAns R).2]) ∧ w'.ownsRow w.heap.size 124 2 v (spAns R).1.length (flat124 (spAns R).1) ∧ Below w.heap.size w w' := by
  have HWF := Aside0.mk ht
  have HP := Aside0.mk hp
  have HS0 := Aside0.mk (Rs.start w)
  have HL := Aside0.mk hl
  have HOK := Aside0.mk hok
  have HSZ := Aside0.mk hs
  have HR := Aside0.mk hR
  have hmf : ∀ (fn : Fn) (first cap : Array Value) (w : World), (Instr.makeFunc fn first cap).run Try.prog w = .ok (.func fn first cap) w := fun _ _ _ _ => rfl
  clear ht hp hl hok hs hR
  refine callsIn_of_wp_defers Try.func97 rfl trivial ?_
  simp only [Try.ntmps97, List.size_toArray, List.length_cons, List.length_nil, Nat.reduceAdd, Nat.reduceSub, Array.replicate_succ, Array.replicate_zero, List.push_toArray, List.append_toArray, List.nil_append, List.cons_append]
  gi_wp2_with (first
    | (first | refine ⟨trivial, fun _ => by omega, ?_⟩ | refine ⟨trivial, ?_⟩); refine (rdata_parts.in_ (n - 1) (by omega) t HWF.out _).mono ?_; rw [HP.out]; rintro e w1 ⟨v, rfl, hr, hb⟩; obtain ⟨Al, cl, rfl, hcl, hCl⟩ := Kd.R_reads hr; have HRp : Aside0 (Kd.R k119 119 w1 (w.heap.size + 2) (fun k => w.heap.size + 2 ≤ k) (.slice Al ps.length cl) ps) := ⟨by have h := Kd.R_mono (Kd.R_bound hr) (ok' := fun k => w.heap.size + 2 ≤ k) (fun k hk => by have := hk.2.1; simp at this; omega); simp only [World.size_alloc, Option.getD_some] at h; exact h⟩; have HS1 := Aside0.mk (HS0.out.next hb); clear hr hb hcl hCl)
  gi_loopw [1, 24] (fun a j wr => ∃ (S : ByteArray) (J : Int) (out : List S124) (v : Value), a = .string S ∧ j = .int .i64 J ∧ 0 ≤ J ∧ J ≤ (ps.length : Int) ∧ Aside0 (splitGo (ps.drop J.toNat) S out = R ∧ out.length = J.toNat ∧ S.size ≤ 100000000000) ∧ Aside0 (Rs w wr v (.bool false)) ∧
      Aside0 (wr.ownsRow (w.heap.size + 2) 124 2 v out.length (flat124 out)) ∧ Aside0 (Kd.R k119 119 wr (w.heap.size + 2) (fun k => w.heap.size + 2 ≤ k) (.slice Al ps.length cl) ps))
    (fun _ j _ => match j with | .int _ J => ((ps.length : Int) - J).toNat | _ => 0)
  case atStart => exact ⟨s, 0, [], _, rfl, rfl, by omega, by omega, ⟨HR.out, rfl, HSZ.out⟩, HS1, ⟨World.ownsRow_nil _ _ _ _⟩, HRp⟩
  case round =>
    obtain ⟨S, J, out, v, rfl, rfl, h0, h1, HK, HS, HO, HRw⟩ := hrel
    have HJ := Aside0.mk (And.intro h0 h1)
    by_cases hlt : J < (ps.length : Int)
    · have d1 : decide (J < (ps.length : Int)) = true := decide_eq_true hlt
      obtain ⟨A', c', ee, _, hC⟩ := Kd.R_reads HRw.out
      obtain ⟨rfl, rfl⟩ : Al = A' ∧ cl = c' := by injection ee with e1 e2 e3; exact ⟨e1, e3⟩
      obtain ⟨ad, rfl, hx0, hx1, hx2⟩ := at_T119 hC J h0 hlt
      have hpd : ps.drop J.toNat = rd_T119 ps J :: ps.drop (J.toNat + 1) := by
        have hj : J.toNat < ps.length := by omega
        rw [List.drop_eq_getElem_cons hj]
        congr 1
        unfold rd_T119
        rw [List.getD_eq_getElem?_getD, List.getElem?_eq_getElem hj]; rfl
      have hpm : rd_T119 ps J ∈ ps := by
        have : rd_T119 ps J ∈ ps.drop J.toNat := by rw [hpd]; exact List.mem_cons_self
        exact List.mem_of_mem_drop this
      have hpo := HOK.out _ hpm
      obtain ⟨⟨f0, f1, f2⟩, hpe⟩ : ∃ p, p = rd_T119 ps J := ⟨_, rfl⟩
      rw [← hpe] at hx0 hx1 hx2 hpd hpo
      have hk := HK.out.1
      rw [hpd] at hk
      have hwj : IntKind.i64.wrap (J + 1) = J + 1 := IntWalk.i64_in _ (by have := HL.out; omega)
      have hp0 := eq_true h0
      have hq0 := eq_true hlt
      clear hpd hpm hpe hC ee
      simp only at hx0 hx1 hx2 hpo
      have HLT := Aside0.mk hlt
      cases f2 with
      | true =>
        obtain rfl : f1 = false := hpo.1 rfl
        by_cases htx : textsB S = true
        · have HTX := Aside0.mk htx
          have hsz0 : 0 ≤ (S.size : Int) := by omega
          have hs1 := str_to S (S.size : Int) (by omega) (by omega)
          have hs2 := str_from S (S.size : Int) (by omega) (by omega)
          obtain ⟨S1, hS1⟩ : ∃ S1, S1 = S.extract 0 ((S.size : Int)).toNat := ⟨_, rfl⟩
          obtain ⟨S2, hS2⟩ : ∃ S2, S2 = S.extract ((S.size : Int)).toNat S.size := ⟨_, rfl⟩
          have HSZ2 : Aside0 (S2.size ≤ 100000000000) := ⟨by rw [hS2, ByteArray.size_extract]; have := HK.out.2.2; omega⟩
          have HNX : Aside0 (splitGo (ps.drop (J.toNat + 1)) S2 (out ++ [⟨S1, false⟩]) = R) := ⟨by rw [← hk, hS1, hS2]; simp [splitGo, htx]⟩
          rw [← hS1] at hs1
          rw [← hS2] at hs2
          clear hk h0 h1 hlt hpo hS1 hS2 htx hsz0
          gi_wp2_with (first | (first | refine ⟨trivial, fun _ => by omega, ?_⟩ | refine ⟨trivial, ?_⟩); refine (rdata_texts.in_ (n - 1) (by omega) S HK.out.2.2 true HTX.out _).mono ?_; rintro e w5 ⟨rfl, hb5⟩; have HB5 := Aside0.mk hb5; have e0 : w5.cell? ⟨wr.heap.size, 0, none⟩ = some (.int .i64 f0) := (blk_cell (blk_below (blk_new wr (Obj.cells #[.int .i64 f0, .bool false, .bool true] 119)) hb5) 0).trans rfl; have e1 : w5.cell? ⟨wr.heap.size, 1, none⟩ = some (.bool false) := (blk_cell (blk_below (blk_new wr (Obj.cells #[.int .i64 f0, .bool false, .bool true] 119)) hb5) 1).trans rfl; have e2 : w5.cell? ⟨wr.heap.size, 2, none⟩ = some (.bool true) := (blk_cell (blk_below (blk_new wr (Obj.cells #[.int .i64 f0, .bool false, .bool true] 119)) hb5) 2).trans rfl; clear hb5)
          have q1 := e1
          clear e0 e1 e2
          have HSa := (HS.out.alloc (Obj.cells #[.int .i64 f0, .bool false, .bool true] 119)).next HB5.out
          have HSd : Rs w w5.drew v (.bool false) := HSa.next (below_drew (Below.refl _ _))
          have HSx : Rs w (w5.drew.alloc (Obj.cells #[.string S1, .bool false] 124)) v (.bool false) := HSd.alloc _
          have c4 := HSd.c4
          have c4x := (HSa.alloc (Obj.cells #[.string S1, .bool false] 124)).c4
          have q9 : w5.cell? ⟨wr.heap.size, 1, none⟩ = some (.bool false) := q1
          have hlit : (w5.drew.alloc (Obj.cells #[.string S1, .bool false] 124)).heap[w5.heap.size]? = some (.cells #[.string S1, .bool false] 124 (0, 0)) := by
            have := blk_new w5.drew (Obj.cells #[.string S1, .bool false] 124)
            have e : w5.drew.heap.size = w5.heap.size := rfl
            rwa [e] at this
          have hbx : Below wr.heap.size wr (w5.drew.alloc (Obj.cells #[.string S1, .bool false] 124)) := below_alloc (below_drew ((below_alloc (Below.refl _ _) _).trans (HB5.out.mono (by simp)))) _
          have hlo : (w5.drew.alloc (Obj.cells #[.string S1, .bool false] 124)).ownsRow (w.heap.size + 2) 124 2 v out.length (flat124 out) := own_below_ HO.out hbx
          have hbs : w.heap.size + 2 ≤ (w5.drew.alloc (Obj.cells #[.string S1, .bool false] 124)).heap.size := blk_lt HSx.b5
          have holen : out.length ≤ 100 := by have := HK.out.2.1; have := HJ.out; have := HL.out; omega
          have hne4 : some w.heap.size ≠ v.ownBlock := fun e => by have := own_lo HO.out _ e.symm; omega
          have hne5 : some (w.heap.size + 1) ≠ v.ownBlock := fun e => by have := own_lo HO.out _ e.symm; omega
          have HRx := Aside0.mk (Kd.R_below HRw.out hbx)
          have hmix : Try.prog.follows .mixedOrders = true := by kernel_rfl
          refine wpIn_region_any hmix ?_
          change wpAnyIn _ _ _ _ _ _ _ _ _ (World.drew _)
          refine wpAnyIn_take (i := 1) (v := .string S) rfl rfl (by kernel_rfl) (by kernel_rfl) (by kernel_rfl) (fun _ _ _ h => leaves_put (fun w => results_put _ _ _ (by decide) (by decide) w) h) ⟨Or.inl ⟨by rfl, by intro w; go_simp; done⟩, fun _ => rfl⟩ ?_
          refine wpAnyIn_take (i := 2) (v := .int .i64 (S.size : Int)) rfl rfl (by kernel_rfl) (by kernel_rfl) (by kernel_rfl) (fun _ _ _ h => leaves_put (fun w => results_put _ _ _ (by decide) (by decide) w) h) ⟨Or.inl ⟨by rfl, by intro w; go_simp; done⟩, fun _ => rfl⟩ ?_
          refine wpAnyIn_take (i := 3) (v := .string S1) rfl rfl (by kernel_rfl) (by kernel_rfl) (by kernel_rfl) (fun _ _ _ h => leaves_put (fun w => results_put _ _ _ (by decide) (by decide) w) h) ⟨Or.inl ⟨by rfl, by intro w; go_simp; done⟩, fun _ => rfl⟩ ?_
          refine wpAnyIn_take (i := 4) (v := .pointer (some ⟨wr.heap.size, 1, none⟩)) rfl rfl (by kernel_rfl) (by kernel_rfl) (by kernel_rfl) (fun _ _ _ h => leaves_put (fun w => results_put _ _ _ (by decide) (by decide) w) h) ⟨Or.inl ⟨by rfl, by intro w; go_simp; done⟩, fun _ => rfl⟩ ?_
          refine wpAnyIn_ready (rs := [0, 5]) (by kernel_rfl) (by simp) ?_
          refine AllReadyIn.cons rfl (fun K hK => ?_) (AllReadyIn.cons rfl (fun K hK => ?_) AllReadyIn.nil)
          · go_simp
            refine hK _ _ ?_
            clear hK K
            refine wpAnyIn_ready (rs := [5]) (by kernel_rfl) (by simp) ?_
            refine AllReadyIn.cons rfl (fun K hK => ?_) AllReadyIn.nil
            go_simp
            refine hK _ _ ?_
            clear hK K
            refine wpAnyIn_take (i := 6) (v := .agg #[.string S1, .bool false]) rfl rfl (by kernel_rfl) (by kernel_rfl) (by kernel_rfl) (fun _ _ _ h => leaves_put (fun w => results_put _ _ _ (by decide) (by decide) w) h) ⟨Or.inl ⟨by rfl, by intro w; go_simp; done⟩, fun _ => rfl⟩ ?_
            refine wpAnyIn_ready (rs := [7]) (by kernel_rfl) (by simp) ?_
            refine AllReadyIn.cons rfl (fun K hK => ?_) AllReadyIn.nil
            go_simp
            refine hK _ _ ?_
            clear hK K
            refine wpAnyIn_ready (rs := [8]) (by kernel_rfl) (by simp) ?_
            refine AllReadyIn.cons rfl (fun K hK => ?_) AllReadyIn.nil
            refine step_append_124 (by rfl) _ _ rfl (w.heap.size + 2) v out (⟨S1, false⟩ : S124) (w5.heap.size) rfl rfl ?_ ?_ ?_ ?_ ?_
            · exact hlit
            · exact hlo
            · exact hbs
            · exact holen
            intro v' w' hown' hgr'
            obtain ⟨gv, cv, rfl⟩ := own_form hown' (Nat.succ_pos _)
            have HG := Aside0.mk hgr'
            have HO2 := Aside0.mk hown'
            have hS2 := HSx.grown_ hgr' hne4 hne5 (fun j e => by have := own_lo hlo j e; omega)
            have c4' := hS2.c4
            have z4' := hS2.z4
            have HS2 := Aside0.mk hS2
            clear hgr' hown' hS2
            refine hK _ _ ?_
            clear hK K
            refine wpAnyIn_ready (rs := [9]) (by kernel_rfl) (by simp) ?_
            refine AllReadyIn.cons rfl (fun K hK => ?_) AllReadyIn.nil
            go_simp
            refine hK _ _ ?_
            clear hK K
            refine wpAnyIn_done (by kernel_rfl) ?_ _
            gi_wp2
            refine ⟨⟨S2, J + 1, out ++ [⟨S1, false⟩], .slice (some ⟨gv, 0, none⟩) (out.length + 1) cv, rfl, rfl, by have := HJ.out; omega, by have := HLT.out; omega, ⟨?_, ?_, ?_⟩, ⟨HS2.out.put4 _⟩, ⟨?_⟩, ⟨?_⟩⟩, ?_⟩
            · have e : (J + 1).toNat = J.toNat + 1 := by have := HJ.out; omega
              rw [e]; exact HNX.out
            · rw [List.length_append]; have := HK.out.2.1; have := HJ.out; simp; omega
            · exact HSZ2.out
            · rw [List.length_append]; exact own_move HO2.out (fun k hk => Below.heap_setCell _ _ _ _ (fun e => by have := own_lo HO2.out k hk; simp at e; omega))
            · exact Kd.R_far (Kd.R_over' HRx.out (own_typed hlo) (by decide) HG.out) (fun k hk e => by simp at e; omega) _
            · show ((ps.length : Int) - (J + 1)).toNat < ((ps.length : Int) - J).toNat; have := HLT.out; omega
          · go_simp
            refine hK _ _ ?_
            clear hK K
            refine wpAnyIn_take (i := 6) (v := .agg #[.string S1, .bool false]) rfl rfl (by kernel_rfl) (by kernel_rfl) (by kernel_rfl) (fun _ _ _ h => leaves_put (fun w => results_put _ _ _ (by decide) (by decide) w) h) ⟨Or.inl ⟨by rfl, by intro w; go_simp; done⟩, fun _ => rfl⟩ ?_
            refine wpAnyIn_ready (rs := [0, 7]) (by kernel_rfl) (by simp) ?_
            refine AllReadyIn.cons rfl (fun K hK => ?_) (AllReadyIn.cons rfl (fun K hK => ?_) AllReadyIn.nil)
            · go_simp
              refine hK _ _ ?_
              clear hK K
              refine wpAnyIn_ready (rs := [7]) (by kernel_rfl) (by simp) ?_
              refine AllReadyIn.cons rfl (fun K hK => ?_) AllReadyIn.nil
              go_simp
              refine hK _ _ ?_
              clear hK K
              refine wpAnyIn_ready (rs := [8]) (by kernel_rfl) (by simp) ?_
              refine AllReadyIn.cons rfl (fun K hK => ?_) AllReadyIn.nil
              refine step_append_124 (by rfl) _ _ rfl (w.heap.size + 2) v out (⟨S1, false⟩ : S124) (w5.heap.size) rfl rfl ?_ ?_ ?_ ?_ ?_
              · exact hlit
              · exact hlo
              · exact hbs
              · exact holen
              intro v' w' hown' hgr'
              obtain ⟨gv, cv, rfl⟩ := own_form hown' (Nat.succ_pos _)
              have HG := Aside0.mk hgr'
              have HO2 := Aside0.mk hown'
              have hS2 := HSx.grown_ hgr' hne4 hne5 (fun j e => by have := own_lo hlo j e; omega)
              have c4' := hS2.c4
              have z4' := hS2.z4
              have HS2 := Aside0.mk hS2
              clear hgr' hown' hS2
              refine hK _ _ ?_
              clear hK K
              refine wpAnyIn_ready (rs := [9]) (by kernel_rfl) (by simp) ?_
              refine AllReadyIn.cons rfl (fun K hK => ?_) AllReadyIn.nil
              go_simp
              refine hK _ _ ?_
              clear hK K
              refine wpAnyIn_done (by kernel_rfl) ?_ _
              gi_wp2
              refine ⟨⟨S2, J + 1, out ++ [⟨S1, false⟩], .slice (some ⟨gv, 0, none⟩) (out.length + 1) cv, rfl, rfl, by have := HJ.out; omega, by have := HLT.out; omega, ⟨?_, ?_, ?_⟩, ⟨HS2.out.put4 _⟩, ⟨?_⟩, ⟨?_⟩⟩, ?_⟩
              · have e : (J + 1).toNat = J.toNat + 1 := by have := HJ.out; omega
                rw [e]; exact HNX.out
              · rw [List.length_append]; have := HK.out.2.1; have := HJ.out; simp; omega
              · exact HSZ2.out
              · rw [List.length_append]; exact own_move HO2.out (fun k hk => Below.heap_setCell _ _ _ _ (fun e => by have := own_lo HO2.out k hk; simp at e; omega))
              · exact Kd.R_far (Kd.R_over' HRx.out (own_typed hlo) (by decide) HG.out) (fun k hk e => by simp at e; omega) _
              · show ((ps.length : Int) - (J + 1)).toNat < ((ps.length : Int) - J).toNat; have := HLT.out; omega
            · go_simp
              refine hK _ _ ?_
              clear hK K
              refine wpAnyIn_ready (rs := [0]) (by kernel_rfl) (by simp) ?_
              refine AllReadyIn.cons rfl (fun K hK => ?_) AllReadyIn.nil
              go_simp
              refine hK _ _ ?_
              clear hK K
              refine wpAnyIn_ready (rs := [8]) (by kernel_rfl) (by simp) ?_
              refine AllReadyIn.cons rfl (fun K hK => ?_) AllReadyIn.nil
              refine step_append_124 (by rfl) _ _ rfl (w.heap.size + 2) v out (⟨S1, false⟩ : S124) (w5.heap.size) rfl rfl ?_ ?_ ?_ ?_ ?_
              · exact hlit
              · exact hlo
              · exact hbs
              · exact holen
              intro v' w' hown' hgr'
              obtain ⟨gv, cv, rfl⟩ := own_form hown' (Nat.succ_pos _)
              have HG := Aside0.mk hgr'
              have HO2 := Aside0.mk hown'
              have hS2 := HSx.grown_ hgr' hne4 hne5 (fun j e => by have := own_lo hlo j e; omega)
              have c4' := hS2.c4
              have z4' := hS2.z4
              have HS2 := Aside0.mk hS2
              clear hgr' hown' hS2
              refine hK _ _ ?_
              clear hK K
              refine wpAnyIn_ready (rs := [9]) (by kernel_rfl) (by simp) ?_
              refine AllReadyIn.cons rfl (fun K hK => ?_) AllReadyIn.nil
              go_simp
              refine hK _ _ ?_
              clear hK K
              refine wpAnyIn_done (by kernel_rfl) ?_ _
              gi_wp2
              refine ⟨⟨S2, J + 1, out ++ [⟨S1, false⟩], .slice (some ⟨gv, 0, none⟩) (out.length + 1) cv, rfl, rfl, by have := HJ.out; omega, by have := HLT.out; omega, ⟨?_, ?_, ?_⟩, ⟨HS2.out.put4 _⟩, ⟨?_⟩, ⟨?_⟩⟩, ?_⟩
              · have e : (J + 1).toNat = J.toNat + 1 := by have := HJ.out; omega
                rw [e]; exact HNX.out
              · rw [List.length_append]; have := HK.out.2.1; have := HJ.out; simp; omega
              · exact HSZ2.out
              · rw [List.length_append]; exact own_move HO2.out (fun k hk => Below.heap_setCell _ _ _ _ (fun e => by have := own_lo HO2.out k hk; simp at e; omega))
              · exact Kd.R_far (Kd.R_over' HRx.out (own_typed hlo) (by decide) HG.out) (fun k hk e => by simp at e; omega) _
              · show ((ps.length : Int) - (J + 1)).toNat < ((ps.length : Int) - J).toNat; have := HLT.out; omega
        · have HTX : Aside0 (textsB S = false) := ⟨by simpa using htx⟩
          have HNX : Aside0 (none = R) := ⟨by rw [← hk]; simp [splitGo, htx]⟩
          clear hk h0 h1 hlt hpo htx
          gi_wp2_with (first | (first | refine ⟨trivial, fun _ => by omega, ?_⟩ | refine ⟨trivial, ?_⟩); refine (rdata_texts.in_ (n - 1) (by omega) S HK.out.2.2 false HTX.out _).mono ?_; rintro e w5 ⟨rfl, hb5⟩; have HB5 := Aside0.mk hb5; have e0 : w5.cell? ⟨wr.heap.size, 0, none⟩ = some (.int .i64 f0) := (blk_cell (blk_below (blk_new wr (Obj.cells #[.int .i64 f0, .bool false, .bool true] 119)) hb5) 0).trans rfl; have e1 : w5.cell? ⟨wr.heap.size, 1, none⟩ = some (.bool false) := (blk_cell (blk_below (blk_new wr (Obj.cells #[.int .i64 f0, .bool false, .bool true] 119)) hb5) 1).trans rfl; have e2 : w5.cell? ⟨wr.heap.size, 2, none⟩ = some (.bool true) := (blk_cell (blk_below (blk_new wr (Obj.cells #[.int .i64 f0, .bool false, .bool true] 119)) hb5) 2).trans rfl; clear hb5)
          have hSp := (HS.out.alloc (Obj.cells #[.int .i64 f0, .bool false, .bool true] 119)).next HB5.out
          refine leavesIn_cons (f := 115) (args := #[.pointer (some ⟨w.heap.size, 0, none⟩), .pointer (some ⟨w.heap.size + 1, 0, none⟩)]) (by simp) (fun _ => by omega) (by simp [go_sem]) (fun _ _ => trivial) ?_
          refine (split1_catch (n - 1) _ _ _ _ _ (by omega) hSp.b4 hSp.b5 []).mono ?_
          rintro e u' w'' ⟨rfl, rfl, rfl⟩
          have hSf := ((hSp.alloc (Obj.cells #[] 148)).put4 (.slice none 0 0)).put5 (.bool false)
          rw [← HNX.out]
          exact ⟨_, results97 rfl rfl hSf.c4 hSf.c5, _, rfl, World.ownsRow_nil _ _ _ _, hSf.below⟩
      | false =>
        cases f1 with
        | true =>
          cases hfn : firstN S with
          | none =>
            have HFN := Aside0.mk hfn
            have HNX : Aside0 (none = R) := ⟨by rw [← hk]; simp [splitGo, hfn]⟩
            clear hk h0 h1 hlt hpo hfn
            gi_wp2_with (first | (first | refine ⟨trivial, fun _ => by omega, ?_⟩ | refine ⟨trivial, ?_⟩); refine (rdata_first.in_ (n - 1) (by omega) S HK.out.2.2 none HFN.out _).mono ?_; rintro e w5 ⟨he, hb5⟩; have he2 : e = .panicked [unfit] := he; subst he2; have HB5 := Aside0.mk hb5; clear hb5 | (show Fence.wide.fn 116 ∧ _; refine ⟨trivial, ?_⟩))
            have hSp := (HS.out.alloc (Obj.cells #[.int .i64 f0, .bool true, .bool false] 119)).next HB5.out
            refine leavesIn_cons (f := 115) (args := #[.pointer (some ⟨w.heap.size, 0, none⟩), .pointer (some ⟨w.heap.size + 1, 0, none⟩)]) (by simp) (fun _ => by omega) (by simp [go_sem]) (fun _ _ => trivial) ?_
            refine (split1_catch (n - 1) _ _ _ _ _ (by omega) hSp.b4 hSp.b5 []).mono ?_
            rintro e u' w'' ⟨rfl, rfl, rfl⟩
            have hSf := ((hSp.alloc (Obj.cells #[] 148)).put4 (.slice none 0 0)).put5 (.bool false)
            rw [← HNX.out]
            exact ⟨_, results97 rfl rfl hSf.c4 hSf.c5, _, rfl, World.ownsRow_nil _ _ _ _, hSf.below⟩
          | some m =>
            have hm := firstN_range hfn
            have HFN := Aside0.mk hfn
            have hs1 := str_to S m (by omega) (by omega)
            have hs2 := str_from S m (by omega) (by omega)
            obtain ⟨S1, hS1⟩ : ∃ S1, S1 = S.extract 0 (m).toNat := ⟨_, rfl⟩
            obtain ⟨S2, hS2⟩ : ∃ S2, S2 = S.extract (m).toNat S.size := ⟨_, rfl⟩
            have HSZ2 : Aside0 (S2.size ≤ 100000000000) := ⟨by rw [hS2, ByteArray.size_extract]; have := HK.out.2.2; omega⟩
            have hml : (S1.size : Int) = m := by rw [hS1, ByteArray.size_extract]; omega
            have HNX : Aside0 (splitGo (ps.drop (J.toNat + 1)) S2 (out ++ [⟨S1, true⟩]) = R) := ⟨by rw [← hk, hS1, hS2]; simp [splitGo, hfn]⟩
            rw [← hS1] at hs1
            rw [← hS2] at hs2
            have HS1e := Aside0.mk hS1
            have d3 : decide ((S.size : Int) < m) = false := decide_eq_false (by omega)
            clear hk h0 h1 hlt hpo hS1 hS2 hfn hm
            gi_wp2_with (first | (first | refine ⟨trivial, fun _ => by omega, ?_⟩ | refine ⟨trivial, ?_⟩); refine (rdata_first.in_ (n - 1) (by omega) S HK.out.2.2 (some m) HFN.out _).mono ?_; rintro e w5 ⟨he, hb5⟩; have he2 : e = .returned (.string S1) := (by rw [HS1e.out]; exact he); subst he2; have HB5 := Aside0.mk hb5; have e0 : w5.cell? ⟨wr.heap.size, 0, none⟩ = some (.int .i64 f0) := (blk_cell (blk_below (blk_new wr (Obj.cells #[.int .i64 f0, .bool true, .bool false] 119)) hb5) 0).trans rfl; have e1 : w5.cell? ⟨wr.heap.size, 1, none⟩ = some (.bool true) := (blk_cell (blk_below (blk_new wr (Obj.cells #[.int .i64 f0, .bool true, .bool false] 119)) hb5) 1).trans rfl; have e2 : w5.cell? ⟨wr.heap.size, 2, none⟩ = some (.bool false) := (blk_cell (blk_below (blk_new wr (Obj.cells #[.int .i64 f0, .bool true, .bool false] 119)) hb5) 2).trans rfl; clear hb5 | (show Fence.wide.fn 116 ∧ _; refine ⟨trivial, ?_⟩))
            have q1 := e1
            clear e0 e1 e2
            have HSa := (HS.out.alloc (Obj.cells #[.int .i64 f0, .bool true, .bool false] 119)).next HB5.out
            have HSd : Rs w w5.drew v (.bool false) := HSa.next (below_drew (Below.refl _ _))
            have HSx : Rs w (w5.drew.alloc (Obj.cells #[.string S1, .bool true] 124)) v (.bool false) := HSd.alloc _
            have c4 := HSd.c4
            have c4x := (HSa.alloc (Obj.cells #[.string S1, .bool true] 124)).c4
            have q9 : w5.cell? ⟨wr.heap.size, 1, none⟩ = some (.bool true) := q1
            have hlit : (w5.drew.alloc (Obj.cells #[.string S1, .bool true] 124)).heap[w5.heap.size]? = some (.cells #[.string S1, .bool true] 124 (0, 0)) := by
              have := blk_new w5.drew (Obj.cells #[.string S1, .bool true] 124)
              have e : w5.drew.heap.size = w5.heap.size := rfl
              rwa [e] at this
            have hbx : Below wr.heap.size wr (w5.drew.alloc (Obj.cells #[.string S1, .bool true] 124)) := below_alloc (below_drew ((below_alloc (Below.refl _ _) _).trans (HB5.out.mono (by simp)))) _
            have hlo : (w5.drew.alloc (Obj.cells #[.string S1, .bool true] 124)).ownsRow (w.heap.size + 2) 124 2 v out.length (flat124 out) := own_below_ HO.out hbx
            have hbs : w.heap.size + 2 ≤ (w5.drew.alloc (Obj.cells #[.string S1, .bool true] 124)).heap.size := blk_lt HSx.b5
            have holen : out.length ≤ 100 := by have := HK.out.2.1; have := HJ.out; have := HL.out; omega
            have hne4 : some w.heap.size ≠ v.ownBlock := fun e => by have := own_lo HO.out _ e.symm; omega
            have hne5 : some (w.heap.size + 1) ≠ v.ownBlock := fun e => by have := own_lo HO.out _ e.symm; omega
            have HRx := Aside0.mk (Kd.R_below HRw.out hbx)
            have hmix : Try.prog.follows .mixedOrders = true := by kernel_rfl
            refine wpIn_region_any hmix ?_
            change wpAnyIn _ _ _ _ _ _ _ _ _ (World.drew _)
            refine wpAnyIn_take (i := 1) (v := .string S) rfl rfl (by kernel_rfl) (by kernel_rfl) (by kernel_rfl) (fun _ _ _ h => leaves_put (fun w => results_put _ _ _ (by decide) (by decide) w) h) ⟨Or.inl ⟨by rfl, by intro w; go_simp; done⟩, fun _ => rfl⟩ ?_
            refine wpAnyIn_take (i := 2) (v := .int .i64 m) rfl rfl (by kernel_rfl) (by kernel_rfl) (by kernel_rfl) (fun _ _ _ h => leaves_put (fun w => results_put _ _ _ (by decide) (by decide) w) h) ⟨Or.inl ⟨by rfl, by intro w; go_simp; done⟩, fun _ => rfl⟩ ?_
            refine wpAnyIn_take (i := 3) (v := .string S1) rfl rfl (by kernel_rfl) (by kernel_rfl) (by kernel_rfl) (fun _ _ _ h => leaves_put (fun w => results_put _ _ _ (by decide) (by decide) w) h) ⟨Or.inl ⟨by rfl, by intro w; go_simp; done⟩, fun _ => rfl⟩ ?_
            refine wpAnyIn_take (i := 4) (v := .pointer (some ⟨wr.heap.size, 1, none⟩)) rfl rfl (by kernel_rfl) (by kernel_rfl) (by kernel_rfl) (fun _ _ _ h => leaves_put (fun w => results_put _ _ _ (by decide) (by decide) w) h) ⟨Or.inl ⟨by rfl, by intro w; go_simp; done⟩, fun _ => rfl⟩ ?_
            refine wpAnyIn_ready (rs := [0, 5]) (by kernel_rfl) (by simp) ?_
            refine AllReadyIn.cons rfl (fun K hK => ?_) (AllReadyIn.cons rfl (fun K hK => ?_) AllReadyIn.nil)
            · go_simp
              refine hK _ _ ?_
              clear hK K
              refine wpAnyIn_ready (rs := [5]) (by kernel_rfl) (by simp) ?_
              refine AllReadyIn.cons rfl (fun K hK => ?_) AllReadyIn.nil
              go_simp
              refine hK _ _ ?_
              clear hK K
              refine wpAnyIn_take (i := 6) (v := .agg #[.string S1, .bool true]) rfl rfl (by kernel_rfl) (by kernel_rfl) (by kernel_rfl) (fun _ _ _ h => leaves_put (fun w => results_put _ _ _ (by decide) (by decide) w) h) ⟨Or.inl ⟨by rfl, by intro w; go_simp; done⟩, fun _ => rfl⟩ ?_
              refine wpAnyIn_ready (rs := [7]) (by kernel_rfl) (by simp) ?_
              refine AllReadyIn.cons rfl (fun K hK => ?_) AllReadyIn.nil
              go_simp
              refine hK _ _ ?_
              clear hK K
              refine wpAnyIn_ready (rs := [8]) (by kernel_rfl) (by simp) ?_
              refine AllReadyIn.cons rfl (fun K hK => ?_) AllReadyIn.nil
              refine step_append_124 (by rfl) _ _ rfl (w.heap.size + 2) v out (⟨S1, true⟩ : S124) (w5.heap.size) rfl rfl ?_ ?_ ?_ ?_ ?_
              · exact hlit
              · exact hlo
              · exact hbs
              · exact holen
              intro v' w' hown' hgr'
              obtain ⟨gv, cv, rfl⟩ := own_form hown' (Nat.succ_pos _)
              have HG := Aside0.mk hgr'
              have HO2 := Aside0.mk hown'
              have hS2 := HSx.grown_ hgr' hne4 hne5 (fun j e => by have := own_lo hlo j e; omega)
              have c4' := hS2.c4
              have z4' := hS2.z4
              have HS2 := Aside0.mk hS2
              clear hgr' hown' hS2
              refine hK _ _ ?_
              clear hK K
              refine wpAnyIn_ready (rs := [9]) (by kernel_rfl) (by simp) ?_
              refine AllReadyIn.cons rfl (fun K hK => ?_) AllReadyIn.nil
              go_simp
              refine hK _ _ ?_
              clear hK K
              refine wpAnyIn_done (by kernel_rfl) ?_ _
              gi_wp2
              refine ⟨⟨S2, J + 1, out ++ [⟨S1, true⟩], .slice (some ⟨gv, 0, none⟩) (out.length + 1) cv, rfl, rfl, by have := HJ.out; omega, by have := HLT.out; omega, ⟨?_, ?_, ?_⟩, ⟨HS2.out.put4 _⟩, ⟨?_⟩, ⟨?_⟩⟩, ?_⟩
              · have e : (J + 1).toNat = J.toNat + 1 := by have := HJ.out; omega
                rw [e]; exact HNX.out
              · rw [List.length_append]; have := HK.out.2.1; have := HJ.out; simp; omega
              · exact HSZ2.out
              · rw [List.length_append]; exact own_move HO2.out (fun k hk => Below.heap_setCell _ _ _ _ (fun e => by have := own_lo HO2.out k hk; simp at e; omega))
              · exact Kd.R_far (Kd.R_over' HRx.out (own_typed hlo) (by decide) HG.out) (fun k hk e => by simp at e; omega) _
              · show ((ps.length : Int) - (J + 1)).toNat < ((ps.length : Int) - J).toNat; have := HLT.out; omega
            · go_simp
              refine hK _ _ ?_
              clear hK K
              refine wpAnyIn_take (i := 6) (v := .agg #[.string S1, .bool true]) rfl rfl (by kernel_rfl) (by kernel_rfl) (by kernel_rfl) (fun _ _ _ h => leaves_put (fun w => results_put _ _ _ (by decide) (by decide) w) h) ⟨Or.inl ⟨by rfl, by intro w; go_simp; done⟩, fun _ => rfl⟩ ?_
              refine wpAnyIn_ready (rs := [0, 7]) (by kernel_rfl) (by simp) ?_
              refine AllReadyIn.cons rfl (fun K hK => ?_) (AllReadyIn.cons rfl (fun K hK => ?_) AllReadyIn.nil)
              · go_simp
                refine hK _ _ ?_
                clear hK K
                refine wpAnyIn_ready (rs := [7]) (by kernel_rfl) (by simp) ?_
                refine AllReadyIn.cons rfl (fun K hK => ?_) AllReadyIn.nil
                go_simp
                refine hK _ _ ?_
                clear hK K
                refine wpAnyIn_ready (rs := [8]) (by kernel_rfl) (by simp) ?_
                refine AllReadyIn.cons rfl (fun K hK => ?_) AllReadyIn.nil
                refine step_append_124 (by rfl) _ _ rfl (w.heap.size + 2) v out (⟨S1, true⟩ : S124) (w5.heap.size) rfl rfl ?_ ?_ ?_ ?_ ?_
                · exact hlit
                · exact hlo
                · exact hbs
                · exact holen
                intro v' w' hown' hgr'
                obtain ⟨gv, cv, rfl⟩ := own_form hown' (Nat.succ_pos _)
                have HG := Aside0.mk hgr'
                have HO2 := Aside0.mk hown'
                have hS2 := HSx.grown_ hgr' hne4 hne5 (fun j e => by have := own_lo hlo j e; omega)
                have c4' := hS2.c4
                have z4' := hS2.z4
                have HS2 := Aside0.mk hS2
                clear hgr' hown' hS2
                refine hK _ _ ?_
                clear hK K
                refine wpAnyIn_ready (rs := [9]) (by kernel_rfl) (by simp) ?_
                refine AllReadyIn.cons rfl (fun K hK => ?_) AllReadyIn.nil
                go_simp
                refine hK _ _ ?_
                clear hK K
                refine wpAnyIn_done (by kernel_rfl) ?_ _
                gi_wp2
                refine ⟨⟨S2, J + 1, out ++ [⟨S1, true⟩], .slice (some ⟨gv, 0, none⟩) (out.length + 1) cv, rfl, rfl, by have := HJ.out; omega, by have := HLT.out; omega, ⟨?_, ?_, ?_⟩, ⟨HS2.out.put4 _⟩, ⟨?_⟩, ⟨?_⟩⟩, ?_⟩
                · have e : (J + 1).toNat = J.toNat + 1 := by have := HJ.out; omega
                  rw [e]; exact HNX.out
                · rw [List.length_append]; have := HK.out.2.1; have := HJ.out; simp; omega
                · exact HSZ2.out
                · rw [List.length_append]; exact own_move HO2.out (fun k hk => Below.heap_setCell _ _ _ _ (fun e => by have := own_lo HO2.out k hk; simp at e; omega))
                · exact Kd.R_far (Kd.R_over' HRx.out (own_typed hlo) (by decide) HG.out) (fun k hk e => by simp at e; omega) _
                · show ((ps.length : Int) - (J + 1)).toNat < ((ps.length : Int) - J).toNat; have := HLT.out; omega
              · go_simp
                refine hK _ _ ?_
                clear hK K
                refine wpAnyIn_ready (rs := [0]) (by kernel_rfl) (by simp) ?_
                refine AllReadyIn.cons rfl (fun K hK => ?_) AllReadyIn.nil
                go_simp
                refine hK _ _ ?_
                clear hK K
                refine wpAnyIn_ready (rs := [8]) (by kernel_rfl) (by simp) ?_
                refine AllReadyIn.cons rfl (fun K hK => ?_) AllReadyIn.nil
                refine step_append_124 (by rfl) _ _ rfl (w.heap.size + 2) v out (⟨S1, true⟩ : S124) (w5.heap.size) rfl rfl ?_ ?_ ?_ ?_ ?_
                · exact hlit
                · exact hlo
                · exact hbs
                · exact holen
                intro v' w' hown' hgr'
                obtain ⟨gv, cv, rfl⟩ := own_form hown' (Nat.succ_pos _)
                have HG := Aside0.mk hgr'
                have HO2 := Aside0.mk hown'
                have hS2 := HSx.grown_ hgr' hne4 hne5 (fun j e => by have := own_lo hlo j e; omega)
                have c4' := hS2.c4
                have z4' := hS2.z4
                have HS2 := Aside0.mk hS2
                clear hgr' hown' hS2
                refine hK _ _ ?_
                clear hK K
                refine wpAnyIn_ready (rs := [9]) (by kernel_rfl) (by simp) ?_
                refine AllReadyIn.cons rfl (fun K hK => ?_) AllReadyIn.nil
                go_simp
                refine hK _ _ ?_
                clear hK K
                refine wpAnyIn_done (by kernel_rfl) ?_ _
                gi_wp2
                refine ⟨⟨S2, J + 1, out ++ [⟨S1, true⟩], .slice (some ⟨gv, 0, none⟩) (out.length + 1) cv, rfl, rfl, by have := HJ.out; omega, by have := HLT.out; omega, ⟨?_, ?_, ?_⟩, ⟨HS2.out.put4 _⟩, ⟨?_⟩, ⟨?_⟩⟩, ?_⟩
                · have e : (J + 1).toNat = J.toNat + 1 := by have := HJ.out; omega
                  rw [e]; exact HNX.out
                · rw [List.length_append]; have := HK.out.2.1; have := HJ.out; simp; omega
                · exact HSZ2.out
                · rw [List.length_append]; exact own_move HO2.out (fun k hk => Below.heap_setCell _ _ _ _ (fun e => by have := own_lo HO2.out k hk; simp at e; omega))
                · exact Kd.R_far (Kd.R_over' HRx.out (own_typed hlo) (by decide) HG.out) (fun k hk e => by simp at e; omega) _
                · show ((ps.length : Int) - (J + 1)).toNat < ((ps.length : Int) - J).toNat; have := HLT.out; omega
        | false =>
          by_cases hsz : (S.size : Int) < f0
          · have d2 : decide ((S.size : Int) < f0) = true := decide_eq_true hsz
            have HNX : Aside0 (none = R) := ⟨by rw [← hk]; simp [splitGo, hsz]⟩
            clear hk h0 h1 hlt hpo hsz
            gi_wp2_with (first | (show Fence.wide.fn 116 ∧ _; refine ⟨trivial, ?_⟩))
            have hSp := HS.out.alloc (Obj.cells #[.int .i64 f0, .bool false, .bool false] 119)
            refine leavesIn_cons (f := 115) (args := #[.pointer (some ⟨w.heap.size, 0, none⟩), .pointer (some ⟨w.heap.size + 1, 0, none⟩)]) (by simp) (fun _ => by omega) (by simp [go_sem]) (fun _ _ => trivial) ?_
            refine (split1_catch (n - 1) _ _ _ _ _ (by omega) hSp.b4 hSp.b5 []).mono ?_
            rintro e u' w'' ⟨rfl, rfl, rfl⟩
            have hSf := ((hSp.alloc (Obj.cells #[] 148)).put4 (.slice none 0 0)).put5 (.bool false)
            rw [← HNX.out]
            exact ⟨_, results97 rfl rfl hSf.c4 hSf.c5, _, rfl, World.ownsRow_nil _ _ _ _, hSf.below⟩
          · have d2 : decide ((S.size : Int) < f0) = false := decide_eq_false hsz
            have hf0 := hpo.2.1
            have hs1 := str_to S f0 (by omega) (by omega)
            have hs2 := str_from S f0 (by omega) (by omega)
            obtain ⟨S1, hS1⟩ : ∃ S1, S1 = S.extract 0 (f0).toNat := ⟨_, rfl⟩
            obtain ⟨S2, hS2⟩ : ∃ S2, S2 = S.extract (f0).toNat S.size := ⟨_, rfl⟩
            have HSZ2 : Aside0 (S2.size ≤ 100000000000) := ⟨by rw [hS2, ByteArray.size_extract]; have := HK.out.2.2; omega⟩
            have HNX : Aside0 (splitGo (ps.drop (J.toNat + 1)) S2 (out ++ [⟨S1, false⟩]) = R) := ⟨by rw [← hk, hS1, hS2]; simp [splitGo, hsz]⟩
            rw [← hS1] at hs1
            rw [← hS2] at hs2
            clear hk h0 h1 hlt hpo hsz hS1 hS2 hf0
            gi_wp2_with (first | (show Fence.wide.fn 116 ∧ _; refine ⟨trivial, ?_⟩))
            have HSa := HS.out.alloc (Obj.cells #[.int .i64 f0, .bool false, .bool false] 119)
            have HSd : Rs w (wr.alloc (Obj.cells #[.int .i64 f0, .bool false, .bool false] 119)).drew v (.bool false) := HSa.next (below_drew (Below.refl _ _))
            have HSx : Rs w ((wr.alloc (Obj.cells #[.int .i64 f0, .bool false, .bool false] 119)).drew.alloc (Obj.cells #[.string S1, .bool false] 124)) v (.bool false) := HSd.alloc _
            have c4 := HSd.c4
            have c4x := (HSa.alloc (Obj.cells #[.string S1, .bool false] 124)).c4
            have q9 : (wr.alloc (Obj.cells #[.int .i64 f0, .bool false, .bool false] 119)).cell? ⟨wr.heap.size, 1, none⟩ = some (.bool false) := (blk_cell (blk_new wr _) 1).trans rfl
            have hlit : ((wr.alloc (Obj.cells #[.int .i64 f0, .bool false, .bool false] 119)).drew.alloc (Obj.cells #[.string S1, .bool false] 124)).heap[wr.heap.size + 1]? = some (.cells #[.string S1, .bool false] 124 (0, 0)) := by
              have := blk_new (wr.alloc (Obj.cells #[.int .i64 f0, .bool false, .bool false] 119)).drew (Obj.cells #[.string S1, .bool false] 124)
              have e : (wr.alloc (Obj.cells #[.int .i64 f0, .bool false, .bool false] 119)).drew.heap.size = wr.heap.size + 1 := World.size_alloc _ _
              rwa [e] at this
            have hbx : Below wr.heap.size wr ((wr.alloc (Obj.cells #[.int .i64 f0, .bool false, .bool false] 119)).drew.alloc (Obj.cells #[.string S1, .bool false] 124)) := below_alloc (below_drew (below_alloc (Below.refl _ _) _)) _
            have hlo : ((wr.alloc (Obj.cells #[.int .i64 f0, .bool false, .bool false] 119)).drew.alloc (Obj.cells #[.string S1, .bool false] 124)).ownsRow (w.heap.size + 2) 124 2 v out.length (flat124 out) := own_below_ HO.out hbx
            have hbs : w.heap.size + 2 ≤ ((wr.alloc (Obj.cells #[.int .i64 f0, .bool false, .bool false] 119)).drew.alloc (Obj.cells #[.string S1, .bool false] 124)).heap.size := blk_lt HSx.b5
            have holen : out.length ≤ 100 := by have := HK.out.2.1; have := HJ.out; have := HL.out; omega
            have hne4 : some w.heap.size ≠ v.ownBlock := fun e => by have := own_lo HO.out _ e.symm; omega
            have hne5 : some (w.heap.size + 1) ≠ v.ownBlock := fun e => by have := own_lo HO.out _ e.symm; omega
            have HRx := Aside0.mk (Kd.R_below HRw.out hbx)
            have hmix : Try.prog.follows .mixedOrders = true := by kernel_rfl
            refine wpIn_region_any hmix ?_
            change wpAnyIn _ _ _ _ _ _ _ _ _ (World.drew _)
            refine wpAnyIn_take (i := 1) (v := .string S) rfl rfl (by kernel_rfl) (by kernel_rfl) (by kernel_rfl) (fun _ _ _ h => leaves_put (fun w => results_put _ _ _ (by decide) (by decide) w) h) ⟨Or.inl ⟨by rfl, by intro w; go_simp; done⟩, fun _ => rfl⟩ ?_
            refine wpAnyIn_take (i := 2) (v := .int .i64 f0) rfl rfl (by kernel_rfl) (by kernel_rfl) (by kernel_rfl) (fun _ _ _ h => leaves_put (fun w => results_put _ _ _ (by decide) (by decide) w) h) ⟨Or.inl ⟨by rfl, by intro w; go_simp; done⟩, fun _ => rfl⟩ ?_
            refine wpAnyIn_take (i := 3) (v := .string S1) rfl rfl (by kernel_rfl) (by kernel_rfl) (by kernel_rfl) (fun _ _ _ h => leaves_put (fun w => results_put _ _ _ (by decide) (by decide) w) h) ⟨Or.inl ⟨by rfl, by intro w; go_simp; done⟩, fun _ => rfl⟩ ?_
            refine wpAnyIn_take (i := 4) (v := .pointer (some ⟨wr.heap.size, 1, none⟩)) rfl rfl (by kernel_rfl) (by kernel_rfl) (by kernel_rfl) (fun _ _ _ h => leaves_put (fun w => results_put _ _ _ (by decide) (by decide) w) h) ⟨Or.inl ⟨by rfl, by intro w; go_simp; done⟩, fun _ => rfl⟩ ?_
            refine wpAnyIn_ready (rs := [0, 5]) (by kernel_rfl) (by simp) ?_
            refine AllReadyIn.cons rfl (fun K hK => ?_) (AllReadyIn.cons rfl (fun K hK => ?_) AllReadyIn.nil)
            · go_simp
              refine hK _ _ ?_
              clear hK K
              refine wpAnyIn_ready (rs := [5]) (by kernel_rfl) (by simp) ?_
              refine AllReadyIn.cons rfl (fun K hK => ?_) AllReadyIn.nil
              go_simp
              refine hK _ _ ?_
              clear hK K
              refine wpAnyIn_take (i := 6) (v := .agg #[.string S1, .bool false]) rfl rfl (by kernel_rfl) (by kernel_rfl) (by kernel_rfl) (fun _ _ _ h => leaves_put (fun w => results_put _ _ _ (by decide) (by decide) w) h) ⟨Or.inl ⟨by rfl, by intro w; go_simp; done⟩, fun _ => rfl⟩ ?_
              refine wpAnyIn_ready (rs := [7]) (by kernel_rfl) (by simp) ?_
              refine AllReadyIn.cons rfl (fun K hK => ?_) AllReadyIn.nil
              go_simp
              refine hK _ _ ?_
              clear hK K
              refine wpAnyIn_ready (rs := [8]) (by kernel_rfl) (by simp) ?_
              refine AllReadyIn.cons rfl (fun K hK => ?_) AllReadyIn.nil
              refine step_append_124 (by rfl) _ _ rfl (w.heap.size + 2) v out (⟨S1, false⟩ : S124) (wr.heap.size + 1) rfl rfl ?_ ?_ ?_ ?_ ?_
              · exact hlit
              · exact hlo
              · exact hbs
              · exact holen
              intro v' w' hown' hgr'
              obtain ⟨gv, cv, rfl⟩ := own_form hown' (Nat.succ_pos _)
              have HG := Aside0.mk hgr'
              have HO2 := Aside0.mk hown'
              have hS2 := HSx.grown_ hgr' hne4 hne5 (fun j e => by have := own_lo hlo j e; omega)
              have c4' := hS2.c4
              have z4' := hS2.z4
              have HS2 := Aside0.mk hS2
              clear hgr' hown' hS2
              refine hK _ _ ?_
              clear hK K
              refine wpAnyIn_ready (rs := [9]) (by kernel_rfl) (by simp) ?_
              refine AllReadyIn.cons rfl (fun K hK => ?_) AllReadyIn.nil
              go_simp
              refine hK _ _ ?_
              clear hK K
              refine wpAnyIn_done (by kernel_rfl) ?_ _
              gi_wp2
              refine ⟨⟨S2, J + 1, out ++ [⟨S1, false⟩], .slice (some ⟨gv, 0, none⟩) (out.length + 1) cv, rfl, rfl, by have := HJ.out; omega, by have := HLT.out; omega, ⟨?_, ?_, ?_⟩, ⟨HS2.out.put4 _⟩, ⟨?_⟩, ⟨?_⟩⟩, ?_⟩
              · have e : (J + 1).toNat = J.toNat + 1 := by have := HJ.out; omega
                rw [e]; exact HNX.out
              · rw [List.length_append]; have := HK.out.2.1; have := HJ.out; simp; omega
              · exact HSZ2.out
              · rw [List.length_append]; exact own_move HO2.out (fun k hk => Below.heap_setCell _ _ _ _ (fun e => by have := own_lo HO2.out k hk; simp at e; omega))
              · exact Kd.R_far (Kd.R_over' HRx.out (own_typed hlo) (by decide) HG.out) (fun k hk e => by simp at e; omega) _
              · show ((ps.length : Int) - (J + 1)).toNat < ((ps.length : Int) - J).toNat; have := HLT.out; omega
            · go_simp
              refine hK _ _ ?_
              clear hK K
              refine wpAnyIn_take (i := 6) (v := .agg #[.string S1, .bool false]) rfl rfl (by kernel_rfl) (by kernel_rfl) (by kernel_rfl) (fun _ _ _ h => leaves_put (fun w => results_put _ _ _ (by decide) (by decide) w) h) ⟨Or.inl ⟨by rfl, by intro w; go_simp; done⟩, fun _ => rfl⟩ ?_
              refine wpAnyIn_ready (rs := [0, 7]) (by kernel_rfl) (by simp) ?_
              refine AllReadyIn.cons rfl (fun K hK => ?_) (AllReadyIn.cons rfl (fun K hK => ?_) AllReadyIn.nil)
              · go_simp
                refine hK _ _ ?_
                clear hK K
                refine wpAnyIn_ready (rs := [7]) (by kernel_rfl) (by simp) ?_
                refine AllReadyIn.cons rfl (fun K hK => ?_) AllReadyIn.nil
                go_simp
                refine hK _ _ ?_
                clear hK K
                refine wpAnyIn_ready (rs := [8]) (by kernel_rfl) (by simp) ?_
                refine AllReadyIn.cons rfl (fun K hK => ?_) AllReadyIn.nil
                refine step_append_124 (by rfl) _ _ rfl (w.heap.size + 2) v out (⟨S1, false⟩ : S124) (wr.heap.size + 1) rfl rfl ?_ ?_ ?_ ?_ ?_
                · exact hlit
                · exact hlo
                · exact hbs
                · exact holen
                intro v' w' hown' hgr'
                obtain ⟨gv, cv, rfl⟩ := own_form hown' (Nat.succ_pos _)
                have HG := Aside0.mk hgr'
                have HO2 := Aside0.mk hown'
                have hS2 := HSx.grown_ hgr' hne4 hne5 (fun j e => by have := own_lo hlo j e; omega)
                have c4' := hS2.c4
                have z4' := hS2.z4
                have HS2 := Aside0.mk hS2
                clear hgr' hown' hS2
                refine hK _ _ ?_
                clear hK K
                refine wpAnyIn_ready (rs := [9]) (by kernel_rfl) (by simp) ?_
                refine AllReadyIn.cons rfl (fun K hK => ?_) AllReadyIn.nil
                go_simp
                refine hK _ _ ?_
                clear hK K
                refine wpAnyIn_done (by kernel_rfl) ?_ _
                gi_wp2
                refine ⟨⟨S2, J + 1, out ++ [⟨S1, false⟩], .slice (some ⟨gv, 0, none⟩) (out.length + 1) cv, rfl, rfl, by have := HJ.out; omega, by have := HLT.out; omega, ⟨?_, ?_, ?_⟩, ⟨HS2.out.put4 _⟩, ⟨?_⟩, ⟨?_⟩⟩, ?_⟩
                · have e : (J + 1).toNat = J.toNat + 1 := by have := HJ.out; omega
                  rw [e]; exact HNX.out
                · rw [List.length_append]; have := HK.out.2.1; have := HJ.out; simp; omega
                · exact HSZ2.out
                · rw [List.length_append]; exact own_move HO2.out (fun k hk => Below.heap_setCell _ _ _ _ (fun e => by have := own_lo HO2.out k hk; simp at e; omega))
                · exact Kd.R_far (Kd.R_over' HRx.out (own_typed hlo) (by decide) HG.out) (fun k hk e => by simp at e; omega) _
                · show ((ps.length : Int) - (J + 1)).toNat < ((ps.length : Int) - J).toNat; have := HLT.out; omega
              · go_simp
                refine hK _ _ ?_
                clear hK K
                refine wpAnyIn_ready (rs := [0]) (by kernel_rfl) (by simp) ?_
                refine AllReadyIn.cons rfl (fun K hK => ?_) AllReadyIn.nil
                go_simp
                refine hK _ _ ?_
                clear hK K
                refine wpAnyIn_ready (rs := [8]) (by kernel_rfl) (by simp) ?_
                refine AllReadyIn.cons rfl (fun K hK => ?_) AllReadyIn.nil
                refine step_append_124 (by rfl) _ _ rfl (w.heap.size + 2) v out (⟨S1, false⟩ : S124) (wr.heap.size + 1) rfl rfl ?_ ?_ ?_ ?_ ?_
                · exact hlit
                · exact hlo
                · exact hbs
                · exact holen
                intro v' w' hown' hgr'
                obtain ⟨gv, cv, rfl⟩ := own_form hown' (Nat.succ_pos _)
                have HG := Aside0.mk hgr'
                have HO2 := Aside0.mk hown'
                have hS2 := HSx.grown_ hgr' hne4 hne5 (fun j e => by have := own_lo hlo j e; omega)
                have c4' := hS2.c4
                have z4' := hS2.z4
                have HS2 := Aside0.mk hS2
                clear hgr' hown' hS2
                refine hK _ _ ?_
                clear hK K
                refine wpAnyIn_ready (rs := [9]) (by kernel_rfl) (by simp) ?_
                refine AllReadyIn.cons rfl (fun K hK => ?_) AllReadyIn.nil
                go_simp
                refine hK _ _ ?_
                clear hK K
                refine wpAnyIn_done (by kernel_rfl) ?_ _
                gi_wp2
                refine ⟨⟨S2, J + 1, out ++ [⟨S1, false⟩], .slice (some ⟨gv, 0, none⟩) (out.length + 1) cv, rfl, rfl, by have := HJ.out; omega, by have := HLT.out; omega, ⟨?_, ?_, ?_⟩, ⟨HS2.out.put4 _⟩, ⟨?_⟩, ⟨?_⟩⟩, ?_⟩
                · have e : (J + 1).toNat = J.toNat + 1 := by have := HJ.out; omega
                  rw [e]; exact HNX.out
                · rw [List.length_append]; have := HK.out.2.1; have := HJ.out; simp; omega
                · exact HSZ2.out
                · rw [List.length_append]; exact own_move HO2.out (fun k hk => Below.heap_setCell _ _ _ _ (fun e => by have := own_lo HO2.out k hk; simp at e; omega))
                · exact Kd.R_far (Kd.R_over' HRx.out (own_typed hlo) (by decide) HG.out) (fun k hk e => by simp at e; omega) _
                · show ((ps.length : Int) - (J + 1)).toNat < ((ps.length : Int) - J).toNat; have := HLT.out; omega
    · have d1 : decide (J < (ps.length : Int)) = false := decide_eq_false hlt
      obtain ⟨Av, nv, cv, rfl⟩ := own_slice HO.out
      have c4 := HS.out.c4
      have z4 := HS.out.z4
      have c5 := (HS.out.put4 (.slice Av nv cv)).c5
      have z5 := (HS.out.put4 (.slice Av nv cv)).z5
      have hk := HK.out.1
      have hj : J.toNat = ps.length := by omega
      rw [hj, List.drop_length] at hk
      have HNX : Aside0 (some (out, S) = R) := ⟨hk⟩
      have HSE : Aside0 (S.toList.isEmpty = decide (S.size = 0)) := ⟨by
        rw [ByteArray.toList_eq]
        have h : S.data.toList.length = S.size := rfl
        cases hl : S.data.toList with
        | nil => rw [hl] at h; simp at h; simp [← h]
        | cons x r => rw [hl] at h; simp at h; simp [← h]⟩
      clear hk h0 h1 hlt hj
      gi_wp2
      have hSp := (HS.out.put4 (.slice Av nv cv)).put5 (.bool S.toList.isEmpty)
      refine leavesIn_cons (f := 115) (args := #[.pointer (some ⟨w.heap.size, 0, none⟩), .pointer (some ⟨w.heap.size + 1, 0, none⟩)]) (by simp) (fun _ => by omega) (by simp [go_sem]) (fun _ _ => trivial) ?_
      refine (split1_idle (n - 1) _ _ _).mono ?_
      rintro e u' w'' ⟨rfl, rfl, rfl⟩
      have hSf := hSp.alloc (Obj.cells #[] 148)
      rw [← HNX.out]
      refine ⟨_, results97 rfl rfl hSf.c4 hSf.c5, _, by rw [HSE.out]; rfl, ?_, hSf.below⟩
      refine own_below_ ?_ (below_alloc (Below.refl _ _) _)
      refine RF.ownlow (own_move HO.out (fun k hk => (Below.heap_setCell _ _ _ _ (fun e => by have := own_lo HO.out k hk; simp at e; omega)).trans (Below.heap_setCell _ _ _ _ (fun e => by have := own_lo HO.out k hk; simp at e; omega)))) (by omega)

theorem partsL_ok {t : Int} {ps : List S119} (h : partsL t = some ps) : ps.length ≤ 3 ∧ ∀ p ∈ ps, (p.f2 = true → p.f1 = false) ∧ 0 ≤ p.f0 ∧ p.f0 ≤ 100 := by
  unfold partsL at h
  repeat' (split at h; · injection h with h; subst h; refine ⟨by decide, ?_⟩; intro p hp; simp at hp; rcases hp with rfl | rfl | rfl <;> decide)
  repeat' (split at h; · injection h with h; subst h; refine ⟨by decide, ?_⟩; intro p hp; simp at hp; rcases hp with rfl | rfl <;> decide)
  cases h

theorem rdata_split.calls (t : Int) (s : ByteArray) (ls : List S124) (b : Bool) (w : World) (h : rdata_split.f t s = some (ls, b)) :
    Calls Try.prog 97 #[.int .i64 t, .string s] w fun e w' => ∃ v0_ : Value, e = .returned (.tuple #[v0_, .bool b]) ∧ Kd.R k124 124 w' w.heap.size (fun _ => True) v0_ ls ∧ Below w.heap.size w w' := by
  unfold rdata_split.f at h
  by_cases hc : (Lit.int .i64 t).wf = true ∧ s.size ≤ 100000000000
  · rw [if_pos hc] at h
    injection h with h
    unfold splitR at h
    cases hp : partsL t with
    | none =>
      rw [hp] at h
      cases h
      refine (callsIn_wide.1 (rdata_split.any 5 (by omega) t hc.1 hp s w)).mono ?_
      rintro e w' ⟨v, rfl, ho, hb⟩
      exact ⟨v, rfl, R124_of_own ho, hb⟩
    | some ps =>
      rw [hp] at h
      replace h : spAns (splitGo ps s []) = (ls, b) := h
      have hok := partsL_ok hp
      refine (callsIn_wide.1 (rdata_split.known 5 (by omega) t hc.1 ps hp hok.1 hok.2 s hc.2 _ rfl w)).mono ?_
      rw [h]
      rintro e w' ⟨v, rfl, ho, hb⟩
      exact ⟨v, rfl, R124_of_own ho, hb⟩
  · rw [if_neg hc] at h; cases h
end Go.Proofs.Ytjjbhpbmfpodeaa.X
end
section
namespace Go.Proofs.Ytjjbhpbmfpodeaa.X
open Go.RowKit Go.Proofs.YtjjbhpbmfpodeaaW.PrintWords Go.Proofs.YtjjbhpbmfpodeaaW.PrintLast Go.Proofs.YtjjbhpbmfpodeaaW.PrintMore
attribute [local go_sem] max2_int min2_int max_two min_two max_three min_three max_four min_four   -- for this text's walks alone
set_option linter.unusedVariables false
set_option linter.unusedSimpArgs false

/-! ### rdata_Check: function 58 -/
def rdata_Check.j0 : Nat → Int → ByteArray → Bool → Option (Int)
  | 0, _, _, _ => none
  | k + 1, x0, x1, x7 => if x7 = true then (some 5) else (if (x1.size : Int) > 65535 then (some 3) else ((rdata_split.f x0 x1).bind fun bt101 => (if bt101.2 = true then (some 0) else (some 4))))
def rdata_Check.f (k : Nat) (a0 : Int) (a1 : ByteArray) : Option (Int) := if a0 < 0 then (rdata_Check.j0 k a0 a1 true) else (rdata_Check.j0 k a0 a1 (decide (a0 > 65535)))
theorem rdata_Check.mono_l : ∀ k, (∀ y0 y1 y2, LeO (rdata_Check.j0 k y0 y1 y2) (rdata_Check.j0 (k + 1) y0 y1 y2))
  | 0 => fun _ _ _ r h => by simp [rdata_Check.j0] at h
  | k + 1 => by
    have ih0 := rdata_Check.mono_l k
    · intro y0 y1 y2
      unfold rdata_Check.j0
      repeat' first
      | (with_reducible exact ih0 _ _ _)
      | (with_reducible exact LeO.refl _)
      | (with_reducible exact LeO.none _)
      | (with_reducible refine LeO.ite ?_ ?_)
      | (with_reducible refine LeO.bind ?_ (fun _ => ?_))
      | exact ih0 _ _ _
      | exact LeO.none _
      | refine LeO.ite ?_ ?_
      | refine LeO.bind ?_ (fun _ => ?_)
theorem rdata_Check.mono : ∀ a0 a1 k, LeO (rdata_Check.f k a0 a1) (rdata_Check.f (k + 1) a0 a1) := by
  intro a0 a1 k
  have ih0 := rdata_Check.mono_l k
  unfold rdata_Check.f
  repeat' first
      | (with_reducible exact ih0 _ _ _)
      | (with_reducible exact LeO.refl _)
      | (with_reducible exact LeO.none _)
      | (with_reducible refine LeO.ite ?_ ?_)
      | (with_reducible refine LeO.bind ?_ (fun _ => ?_))
      | exact ih0 _ _ _
      | exact LeO.none _
      | refine LeO.ite ?_ ?_
      | refine LeO.bind ?_ (fun _ => ?_)
set_option maxHeartbeats 8000000 in
set_option maxRecDepth 100000 in
theorem rdata_Check.calls (k : Nat) (a0 : Int) (a1 : ByteArray) (r : Int) (w : World) (h : rdata_Check.f k a0 a1 = some r) :
    Calls Try.prog 58 #[.int .i64 a0, .string a1] w fun e w' => e = .returned (.int .i64 r) ∧ Below w.heap.size w w' := by
  have HB := Aside0.mk (Below.refl w.heap.size w)
  have H : (if a0 < 0 then (rdata_Check.j0 k a0 a1 true) else (rdata_Check.j0 k a0 a1 (decide (a0 > 65535)))) = some r := h
  clear h
  have HC3 := Aside0.mk H
  clear H
  go_enter Try.func58, Try.ntmps58
  go_upto_region 1 with (fail)
  go_cut [7] (fun v7 wc => ∃ (kq : Nat) (x7_2 : Bool), v7 = .bool x7_2 ∧ Aside0 (rdata_Check.j0 kq a0 a1 x7_2 = some r) ∧ Aside0 (kq ≤ k) ∧ Aside0 (Below w.heap.size w wc))
  case first =>
    have H := HC3.out
    clear HC3
    by_cases c4 : a0 < 0
    · rw [if_pos c4] at H
      have c4b0 : decide (a0 < 0) = true := decide_eq_true c4
      clear c4
      (first | rw [c4b0] | (simp only [i64_w, i32_w]; rw [c4b0]) | skip)
      have H' := Aside0.mk H
      clear H
      go_wp2
      go_meet
      case rel => exact ⟨_, (true), (by first | rfl | (simp; done) | (simp [*]; done)), H', ⟨by first | omega | exact Nat.le_refl _⟩, ⟨by repeat (first | (with_reducible first | exact HB.out | apply below_alloc | apply pw_below_drewN | apply below_drew1) | exact HB.out)⟩⟩
    · rw [if_neg c4] at H
      have c4b0 : decide (a0 < 0) = false := decide_eq_false c4
      clear c4
      (first | rw [c4b0] | (simp only [i64_w, i32_w]; rw [c4b0]) | skip)
      have H' := Aside0.mk H
      clear H
      go_wp2
      go_meet
      case rel => exact ⟨_, (decide (a0 > 65535)), (by first | rfl | (simp; done) | (simp [*]; done)), H', ⟨by first | omega | exact Nat.le_refl _⟩, ⟨by repeat (first | (with_reducible first | exact HB.out | apply below_alloc | apply pw_below_drewN | apply below_drew1) | exact HB.out)⟩⟩
  case rest =>
    clear HC3
    try clear p2
    try clear c4
    try clear c4b0
    obtain ⟨kq, x7_2, rfl, HA, HJ2, HB⟩ := hcut
    cases kq with
    | zero => exact absurd HA.out (by simp [rdata_Check.j0])
    | succ kj2 =>
      have H := HA.out
      clear HA
      simp only [rdata_Check.j0] at H
      by_cases c5 : x7_2 = true
      · subst c5
        have H1 : (some 5) = some r := by rw [if_pos rfl] at H; exact H
        clear H
        have H := H1
        clear H1
        obtain rfl := Option.some.inj H
        go_wp2
        go_ret
        exact ⟨by first | rfl | (simp [errW_none, errW_some] <;> rfl) | (simp [*, errW_none, errW_some] <;> rfl), by repeat (first | (with_reducible first | exact HB.out | apply below_alloc | apply pw_below_drewN | apply below_drew1) | exact HB.out)⟩
      · replace c5 := Bool.eq_false_iff.mpr c5
        subst c5
        have H1 : (if (a1.size : Int) > 65535 then (some 3) else ((rdata_split.f a0 a1).bind fun bt101 => (if bt101.2 = true then (some 0) else (some 4)))) = some r := by rw [if_neg (show ¬ (false = true) by decide)] at H; exact H
        clear H
        have H := H1
        clear H1
        by_cases c6 : (a1.size : Int) > 65535
        · rw [if_pos c6] at H
          have c6b0 : decide (65535 < (a1.size : Int)) = true := decide_eq_true c6
          have c6b1 : decide (65535 < a1.size) = true := decide_eq_true (by omega)
          clear c6
          obtain rfl := Option.some.inj H
          go_wp2
          go_ret
          exact ⟨by first | rfl | (simp [errW_none, errW_some] <;> rfl) | (simp [*, errW_none, errW_some] <;> rfl), by repeat (first | (with_reducible first | exact HB.out | apply below_alloc | apply pw_below_drewN | apply below_drew1) | exact HB.out)⟩
        · rw [if_neg c6] at H
          have c6b0 : decide (65535 < (a1.size : Int)) = false := decide_eq_false c6
          have c6b1 : decide (65535 < a1.size) = false := decide_eq_false (by omega)
          clear c6
          replace H := Option.bind_eq_some_iff.mp H
          obtain ⟨⟨t101, t102⟩, A70, H⟩ := H
          replace H : (if t102 = true then (some 0) else (some 4)) = some r := H
          have A7 := Aside0.mk A70
          clear A70
          by_cases c8 : t102 = true
          · subst c8
            have H1 : (some 0) = some r := by rw [if_pos rfl] at H; exact H
            clear H
            have H := H1
            clear H1
            obtain rfl := Option.some.inj H
            go_wp2_with (first | ((with_reducible refine gate_callee (f := 97) rfl ?_); refine goesL_ (some 21) rfl rfl Try.func97 (by kernel_rfl) rfl #[.int .i64 a0, .string a1] rfl (by (try simp only [List.map_toArray, List.map_cons, List.map_nil]); first | done | rfl | (simp only [List.length_drop, List.length_take]; rfl)) ?_; (with_reducible refine (rdata_split.calls a0 a1 t101 true _ A7.out).mono ?_); rintro e w9 ⟨v103, rfl, ho0, hb⟩; refine ⟨_, rfl, ?_⟩; have n0_ := Aside0.mk (Kd.R_lower ho0 (below_size (by repeat (first | (with_reducible first | exact HB.out | apply below_alloc | apply pw_below_drewN | apply below_drew1) | exact HB.out)))); have n1_ := Aside0.mk (below_step (by repeat (first | (with_reducible first | exact HB.out | apply below_alloc | apply pw_below_drewN | apply below_drew1) | exact HB.out)) hb); clear HB; have HO104 := n0_; have HB := n1_; clear n0_ n1_; (try clear hb); (try clear hb2); (try clear hk); (try clear hi); (try clear ho0)))
            go_ret
            exact ⟨by first | rfl | (simp [errW_none, errW_some] <;> rfl) | (simp [*, errW_none, errW_some] <;> rfl), by repeat (first | (with_reducible first | exact HB.out | apply below_alloc | apply pw_below_drewN | apply below_drew1) | exact HB.out)⟩
          · replace c8 := Bool.eq_false_iff.mpr c8
            subst c8
            have H1 : (some 4) = some r := by rw [if_neg (show ¬ (false = true) by decide)] at H; exact H
            clear H
            have H := H1
            clear H1
            obtain rfl := Option.some.inj H
            go_wp2_with (first | ((with_reducible refine gate_callee (f := 97) rfl ?_); refine goesL_ (some 21) rfl rfl Try.func97 (by kernel_rfl) rfl #[.int .i64 a0, .string a1] rfl (by (try simp only [List.map_toArray, List.map_cons, List.map_nil]); first | done | rfl | (simp only [List.length_drop, List.length_take]; rfl)) ?_; (with_reducible refine (rdata_split.calls a0 a1 t101 false _ A7.out).mono ?_); rintro e w10 ⟨v103, rfl, ho0, hb⟩; refine ⟨_, rfl, ?_⟩; have n0_ := Aside0.mk (Kd.R_lower ho0 (below_size (by repeat (first | (with_reducible first | exact HB.out | apply below_alloc | apply pw_below_drewN | apply below_drew1) | exact HB.out)))); have n1_ := Aside0.mk (below_step (by repeat (first | (with_reducible first | exact HB.out | apply below_alloc | apply pw_below_drewN | apply below_drew1) | exact HB.out)) hb); clear HB; have HO104 := n0_; have HB := n1_; clear n0_ n1_; (try clear hb); (try clear hb2); (try clear hk); (try clear hi); (try clear ho0)))
            go_ret
            exact ⟨by first | rfl | (simp [errW_none, errW_some] <;> rfl) | (simp [*, errW_none, errW_some] <;> rfl), by repeat (first | (with_reducible first | exact HB.out | apply below_alloc | apply pw_below_drewN | apply below_drew1) | exact HB.out)⟩

end Go.Proofs.Ytjjbhpbmfpodeaa.X
end
section
namespace Go.Proofs.Ytjjbhpbmfpodeaa.X
open Go.RowKit Go.Proofs.YtjjbhpbmfpodeaaW.PrintWords Go.Proofs.YtjjbhpbmfpodeaaW.PrintLast Go.Proofs.YtjjbhpbmfpodeaaW.PrintMore
attribute [local go_sem] max2_int min2_int max_two min_two max_three min_three max_four min_four   -- for this text's walks alone
set_option linter.unusedVariables false
set_option linter.unusedSimpArgs false

/-! ### wire_Read: function 45 -/
mutual
def wire_Read.j0 : Nat → List Int → Int → Bool → Option (ByteArray × Int × Int × Int)
  | 0, _, _, _ => none
  | k + 1, x0, x1, x25 => if x25 = true then (some ((⟨#[]⟩ : ByteArray), 0, 5, 0)) else (wire_Read.l0 k x0 x1 ([] : List Int) x1 x1 (-1))
def wire_Read.l0 : Nat → List Int → Int → List Int → Int → Int → Int → Option (ByteArray × Int × Int × Int)
  | 0, _, _, _, _, _, _ => none
  | k + 1, x0, x1, x7, x8, x9, x10 => if x9 ≥ (x0.length : Int) then (some ((⟨#[]⟩ : ByteArray), 0, 4, (x0.length : Int))) else (if 0 ≤ x9 then (if x9 < (x0.length : Int) then (if (wrap64 (rd x0 x9)) = 0 then (if x10 < 0 then (if x7.length < 140737488355328 then (some (strOfNums (x7 ++ [0]), wrap64 (x9 + 1), 0, 0)) else (none)) else (if x7.length < 140737488355328 then (some (strOfNums (x7 ++ [0]), x10, 0, 0)) else (none))) else (if (wrap64 (rd x0 x9)) ≥ 192 then ((octet_Get16.f x0 x9).bind fun bt109 => (if bt109.2.2.1 = 0 then (if (Go.bits .and .i64 bt109.1 16383) ≥ x8 then (some ((⟨#[]⟩ : ByteArray), 0, 150, x9)) else (if x10 < 0 then (wire_Read.l0 k x0 x1 x7 (Go.bits .and .i64 bt109.1 16383) (Go.bits .and .i64 bt109.1 16383) bt109.2.1) else (wire_Read.l0 k x0 x1 x7 (Go.bits .and .i64 bt109.1 16383) (Go.bits .and .i64 bt109.1 16383) x10))) else (some ((⟨#[]⟩ : ByteArray), 0, bt109.2.2.1, bt109.2.2.2)))) else (if (wrap64 (rd x0 x9)) > 63 then (some ((⟨#[]⟩ : ByteArray), 0, 4, x9)) else ((octet_Bytes.f k x0 x9 (wrap64 ((wrap64 (rd x0 x9)) + 1))).bind fun bt114 => (if bt114.2.2.1 = 0 then (if x7.length + bt114.1.length < 140737488355328 then ((some (x7 ++ bt114.1 : List Int)).bind fun y121 => (if (y121.length : Int) > 254 then (some ((⟨#[]⟩ : ByteArray), 0, 3, x1)) else (wire_Read.l0 k x0 x1 y121 x8 bt114.2.1 x10))) else (none)) else (some ((⟨#[]⟩ : ByteArray), 0, bt114.2.2.1, bt114.2.2.2))))))) else (none)) else (none))
end
def wire_Read.f (k : Nat) (l0 : List Int) (a1 : Int) : Option (ByteArray × Int × Int × Int) := if a1 < 0 then (wire_Read.j0 k l0 a1 true) else (wire_Read.j0 k l0 a1 (decide (a1 > (l0.length : Int))))
theorem wire_Read.mono_l : ∀ k, (∀ y0 y1 y2, LeO (wire_Read.j0 k y0 y1 y2) (wire_Read.j0 (k + 1) y0 y1 y2)) ∧ (∀ y0 y1 y2 y3 y4 y5, LeO (wire_Read.l0 k y0 y1 y2 y3 y4 y5) (wire_Read.l0 (k + 1) y0 y1 y2 y3 y4 y5))
  | 0 => ⟨fun _ _ _ r h => by simp [wire_Read.j0] at h, fun _ _ _ _ _ _ r h => by simp [wire_Read.l0] at h⟩
  | k + 1 => by
    obtain ⟨ih0, ih1⟩ := wire_Read.mono_l k
    refine ⟨?_, ?_⟩
    · intro y0 y1 y2
      unfold wire_Read.j0
      repeat' first
      | (with_reducible exact ih0 _ _ _)
      | (with_reducible exact ih1 _ _ _ _ _ _)
      | (with_reducible exact octet_Bytes.mono _ _ _ _)
      | (with_reducible exact LeO.refl _)
      | (with_reducible exact LeO.none _)
      | (with_reducible refine LeO.ite ?_ ?_)
      | (with_reducible refine LeO.bind ?_ (fun _ => ?_))
      | exact ih0 _ _ _
      | exact ih1 _ _ _ _ _ _
      | exact octet_Bytes.mono _ _ _ _
      | exact LeO.none _
      | refine LeO.ite ?_ ?_
      | refine LeO.bind ?_ (fun _ => ?_)
    · intro y0 y1 y2 y3 y4 y5
      unfold wire_Read.l0
      repeat' first
      | (with_reducible exact ih0 _ _ _)
      | (with_reducible exact ih1 _ _ _ _ _ _)
      | (with_reducible exact octet_Bytes.mono _ _ _ _)
      | (with_reducible exact LeO.refl _)
      | (with_reducible exact LeO.none _)
      | (with_reducible refine LeO.ite ?_ ?_)
      | (with_reducible refine LeO.bind ?_ (fun _ => ?_))
      | exact ih0 _ _ _
      | exact ih1 _ _ _ _ _ _
      | exact octet_Bytes.mono _ _ _ _
      | exact LeO.none _
      | refine LeO.ite ?_ ?_
      | refine LeO.bind ?_ (fun _ => ?_)
theorem wire_Read.mono : ∀ a0 a1 k, LeO (wire_Read.f k a0 a1) (wire_Read.f (k + 1) a0 a1) := by
  intro a0 a1 k
  obtain ⟨ih0, ih1⟩ := wire_Read.mono_l k
  unfold wire_Read.f
  repeat' first
      | (with_reducible exact ih0 _ _ _)
      | (with_reducible exact ih1 _ _ _ _ _ _)
      | (with_reducible exact octet_Bytes.mono _ _ _ _)
      | (with_reducible exact LeO.refl _)
      | (with_reducible exact LeO.none _)
      | (with_reducible refine LeO.ite ?_ ?_)
      | (with_reducible refine LeO.bind ?_ (fun _ => ?_))
      | exact ih0 _ _ _
      | exact ih1 _ _ _ _ _ _
      | exact octet_Bytes.mono _ _ _ _
      | exact LeO.none _
      | refine LeO.ite ?_ ?_
      | refine LeO.bind ?_ (fun _ => ?_)
set_option maxHeartbeats 8000000 in
set_option maxRecDepth 100000 in
theorem wire_Read.calls (k : Nat) (A0 : Option Addr) (c0 : Nat) (l0 : List Int) (a1 : Int) (r1 : ByteArray) (r2 : Int) (r3 : Int) (r4 : Int) (w : World) (hr0 : Kd.C (Kd.int .u8) w A0 l0.length l0) (hc0 : l0.length ≤ c0) (h : wire_Read.f k l0 a1 = some (r1, r2, r3, r4)) :
    Calls Try.prog 45 #[.slice A0 l0.length c0, .int .i64 a1] w fun e w' => e = .returned (.tuple #[.string r1, .int .i64 r2, .agg #[.int .i64 r3, .int .i64 r4]]) ∧ Below w.heap.size w w' := by
  have hu31 := Try.underlying31
  have HR0 := Aside0.mk hr0
  have HC0 := Aside0.mk hc0
  clear hr0 hc0
  have HB := Aside0.mk (Below.refl w.heap.size w)
  have H : (if a1 < 0 then (wire_Read.j0 k l0 a1 true) else (wire_Read.j0 k l0 a1 (decide (a1 > (l0.length : Int))))) = some (r1, r2, r3, r4) := h
  clear h
  have HC3 := Aside0.mk H
  clear H
  go_enter Try.func45, Try.ntmps45
  go_wp2_with (first | ((with_reducible refine gate_dst (N := 6) rfl ?_); (try (refine gate_guard (by rfl) ?_; dsimp only)); refine box_event ?hg (N := 6) ?hd (cs := #[.int .i64 0, .int .i64 0]) (t := 31) ?hr ?_; (case hd => rfl); (case hg => rfl); (case hr => first | (go_simp; done) | (go_simp; rfl)); intro gb101 hg w4 hbox hb; have n0_ := Aside0.mk (below_step (by repeat (first | (with_reducible first | exact HB.out | apply below_alloc | apply pw_below_drewN | apply below_drew1) | exact HB.out)) hb); have n1_ := Aside0.mk (hbox); have n2_ := Aside0.mk ((by rw [hg]; exact (below_size (by repeat (first | (with_reducible first | exact HB.out | apply below_alloc | apply pw_below_drewN | apply below_drew1) | exact HB.out))) : w.heap.size ≤ gb101)); have n3_ := Aside0.mk ((by rw [hg]; exact (below_size (by repeat (first | (with_reducible first | exact HB.out | apply below_alloc | apply pw_below_drewN | apply below_drew1) | exact HB.out))) : w.heap.size ≤ gb101)); clear HB; have HB := n0_; have BK101 := n1_; have GW101 := n2_; have GE101 := n3_; clear n0_ n1_ n2_ n3_; clear hb hbox hg))
  go_step3
  go_upto_region 1 with (fail)
  (try simp only [Act.put, List.setIfInBounds_toArray, List.set_cons_zero, List.set_cons_succ])
  go_cut [25] (fun v25 wc => ∃ (kq : Nat) (x25_2 : Bool), v25 = .bool x25_2 ∧ Aside0 (wire_Read.j0 kq l0 a1 x25_2 = some (r1, r2, r3, r4)) ∧ Aside0 (kq ≤ k) ∧ Aside0 (wc.heap[gb101]? = some (.cells #[.int .i64 0, .int .i64 0] 31 (0, 0))) ∧ Aside0 (Below w.heap.size w wc))
  case first =>
    have H := HC3.out
    clear HC3
    by_cases c5 : a1 < 0
    · rw [if_pos c5] at H
      have c5b0 : decide (a1 < 0) = true := decide_eq_true c5
      clear c5
      (first | rw [c5b0] | (simp only [i64_w, i32_w]; rw [c5b0]) | skip)
      have H' := Aside0.mk H
      clear H
      go_wp2
      go_meet
      case rel => exact ⟨_, (true), (by first | rfl | (simp; done) | (simp [*]; done)), H', ⟨by first | omega | exact Nat.le_refl _⟩, ⟨by (with_reducible repeat (first | refine blk_drewN ?_ _ | refine blk_drew ?_ | refine blk_alloc ?_ _)); exact BK101.out⟩, ⟨by repeat (first | (with_reducible first | exact HB.out | apply below_alloc | apply pw_below_drewN | apply below_drew1 | refine below_set ?_ GE101.out) | exact HB.out)⟩⟩
    · rw [if_neg c5] at H
      have c5b0 : decide (a1 < 0) = false := decide_eq_false c5
      clear c5
      (first | rw [c5b0] | (simp only [i64_w, i32_w]; rw [c5b0]) | skip)
      have H' := Aside0.mk H
      clear H
      go_wp2
      go_meet
      case rel => exact ⟨_, (decide (a1 > (l0.length : Int))), (by first | rfl | (simp; done) | (simp [*]; done)), H', ⟨by first | omega | exact Nat.le_refl _⟩, ⟨by (with_reducible repeat (first | refine blk_drewN ?_ _ | refine blk_drew ?_ | refine blk_alloc ?_ _)); exact BK101.out⟩, ⟨by repeat (first | (with_reducible first | exact HB.out | apply below_alloc | apply pw_below_drewN | apply below_drew1 | refine below_set ?_ GE101.out) | exact HB.out)⟩⟩
  case rest =>
    clear HC3
    try clear p2
    try clear c4
    try clear c5
    try clear c5b0
    obtain ⟨kq, x25_2, rfl, HA, HJ2, BK101, HB⟩ := hcut
    cases kq with
    | zero => exact absurd HA.out (by simp [wire_Read.j0])
    | succ kj2 =>
      have H := HA.out
      clear HA
      simp only [wire_Read.j0] at H
      by_cases c6 : x25_2 = true
      · subst c6
        have H1 : (some ((⟨#[]⟩ : ByteArray), 0, 5, 0)) = some (r1, r2, r3, r4) := by rw [if_pos rfl] at H; exact H
        clear H
        have H := H1
        clear H1
        simp only [Option.some.injEq, Prod.mk.injEq] at H
        obtain ⟨rfl, rfl, rfl, rfl⟩ := H
        have hcz7_0 : wc.cell? ⟨gb101, 0, none⟩ = some (.int .i64 0) := (blk_cell BK101.out 0).trans rfl
        have hcz7_1 : wc.cell? ⟨gb101, 1, none⟩ = some (.int .i64 0) := (blk_cell BK101.out 1).trans rfl
        have hfz7_0 := blk_frozen BK101.out 0
        have hfz7_1 := blk_frozen BK101.out 1
        go_wp2
        (try rw [Exit.noGoto_ret])
        refine bodyPost_ret (results_list (rs := [.tmp 4, .tmp 5, .cell 6 31]) rfl (by simp) (.tmp (.tmp (.cell gb101 31 #[.int .i64 5, .int .i64 0] (0, 0) _ rfl (by (with_reducible repeat (first | refine blk_drewN ?_ _ | refine blk_drew ?_ | refine blk_alloc ?_ _)); refine blk_put (cs := #[.int .i64 5, .int .i64 0]) ?_ 1 _ rfl; (with_reducible repeat (first | refine blk_drewN ?_ _ | refine blk_drew ?_ | refine blk_alloc ?_ _)); refine blk_put (cs := #[.int .i64 0, .int .i64 0]) ?_ 0 _ rfl; (with_reducible repeat (first | refine blk_drewN ?_ _ | refine blk_drew ?_ | refine blk_alloc ?_ _)); exact BK101.out) Try.underlying31 rfl (by kernel_rfl) .nil)))) rfl ?_
        exact ⟨by first | rfl | (simp [errW_none, errW_some] <;> rfl) | (simp [*, errW_none, errW_some] <;> rfl), by repeat (first | (with_reducible first | exact HB.out | apply below_alloc | apply pw_below_drewN | apply below_drew1 | refine below_set ?_ GE101.out) | exact HB.out)⟩
      · replace c6 := Bool.eq_false_iff.mpr c6
        subst c6
        have H1 : (wire_Read.l0 kj2 l0 a1 ([] : List Int) a1 a1 (-1)) = some (r1, r2, r3, r4) := by rw [if_neg (show ¬ (false = true) by decide)] at H; exact H
        clear H
        have H := H1
        clear H1
        have H' := Aside0.mk H
        clear H
        go_wp2
        go_step3
        go_wp2
        go_loopg [7, 8, 9, 10] kj2 (fun kq v7 v8 v9 v10 w' => ∃ (x7_2 : List Int) (x8_2 : Int) (x9_2 : Int) (x10_2 : Int) (x102000_2 : Int) (x102001_2 : Int), v8 = .int .i64 x8_2 ∧ v9 = .int .i64 x9_2 ∧ v10 = .int .i64 x10_2 ∧ Aside0 (wire_Read.l0 kq l0 a1 x7_2 x8_2 x9_2 x10_2 = some (r1, r2, r3, r4)) ∧ Aside0 (kq ≤ kj2) ∧ Aside0 (Kd.R (Kd.int .u8) 5 w' w.heap.size (fun _ => True) v7 x7_2) ∧ Aside0 (w'.heap[gb101]? = some (.cells #[.int .i64 x102000_2, .int .i64 x102001_2] 31 (0, 0))) ∧ Aside0 (Below w.heap.size w w'))
        case atStart => exact ⟨(([] : List Int)), (a1), (a1), ((-1)), (0), (0), (by first | rfl | (simp; done) | (simp [*]; done)), (by first | rfl | (simp; done) | (simp [*]; done)), (by first | rfl | (simp; done) | (simp [*]; done)), H', ⟨Nat.le_refl _⟩, ⟨by first | exact Kd.R_nil _ _ _ _ _ | exact Kd.N_nil _ _ _ _ _ | exact Kd.V_nil _ _ _ _ _ | exact Kd.Q_nil _ _ _ _ _ | exact Kd.S_nil _ _ _ _ _⟩, ⟨by (with_reducible repeat (first | refine blk_drewN ?_ _ | refine blk_drew ?_ | refine blk_alloc ?_ _)); exact BK101.out⟩, ⟨by repeat (first | (with_reducible first | exact HB.out | apply below_alloc | apply pw_below_drewN | apply below_drew1 | refine below_set ?_ GE101.out) | exact HB.out)⟩⟩
        case round =>
          clear H'
          try clear p2
          try clear c4
          try clear c5
          try clear c5b0
          try clear c6
          try clear hcz7_0
          try clear hcz7_1
          try clear hfz7_0
          try clear hfz7_1
          try clear p2
          obtain ⟨x7_2, x8_2, x9_2, x10_2, x102000_2, x102001_2, rfl, rfl, rfl, HA, HK2, HO_7, BK101, HB⟩ := hrel
          cases gk with
          | zero => exact absurd HA.out (by simp [wire_Read.l0])
          | succ k2 =>
            have H := HA.out
            clear HA
            simp only [wire_Read.l0] at H
            by_cases c8 : x9_2 ≥ (l0.length : Int)
            · rw [if_pos c8] at H
              have c8b0 : decide ((l0.length : Int) ≤ x9_2) = true := decide_eq_true c8
              clear c8
              simp only [Option.some.injEq, Prod.mk.injEq] at H
              obtain ⟨rfl, rfl, rfl, rfl⟩ := H
              have hcz9_0 : wr.cell? ⟨gb101, 0, none⟩ = some (.int .i64 x102000_2) := (blk_cell BK101.out 0).trans rfl
              have hcz9_1 : wr.cell? ⟨gb101, 1, none⟩ = some (.int .i64 x102001_2) := (blk_cell BK101.out 1).trans rfl
              have hfz9_0 := blk_frozen BK101.out 0
              have hfz9_1 := blk_frozen BK101.out 1
              go_wp2
              (try rw [Exit.noGoto_ret])
              refine bodyPost_ret (results_list (rs := [.tmp 4, .tmp 5, .cell 6 31]) rfl (by simp) (.tmp (.tmp (.cell gb101 31 #[.int .i64 4, .int .i64 (l0.length : Int)] (0, 0) _ rfl (by (with_reducible repeat (first | refine blk_drewN ?_ _ | refine blk_drew ?_ | refine blk_alloc ?_ _)); refine blk_put (cs := #[.int .i64 4, .int .i64 x102001_2]) ?_ 1 _ rfl; (with_reducible repeat (first | refine blk_drewN ?_ _ | refine blk_drew ?_ | refine blk_alloc ?_ _)); refine blk_put (cs := #[.int .i64 x102000_2, .int .i64 x102001_2]) ?_ 0 _ rfl; (with_reducible repeat (first | refine blk_drewN ?_ _ | refine blk_drew ?_ | refine blk_alloc ?_ _)); exact BK101.out) Try.underlying31 rfl (by kernel_rfl) .nil)))) rfl ?_
              exact ⟨by first | rfl | (simp [errW_none, errW_some] <;> rfl) | (simp [*, errW_none, errW_some] <;> rfl), by repeat (first | (with_reducible first | exact HB.out | apply below_alloc | apply pw_below_drewN | apply below_drew1 | refine below_set ?_ GE101.out) | exact HB.out)⟩
            · rw [if_neg c8] at H
              have c8b0 : decide ((l0.length : Int) ≤ x9_2) = false := decide_eq_false c8
              clear c8
              by_cases c10 : 0 ≤ x9_2
              · rw [if_pos c10] at H
                have c10b0 : decide (0 ≤ x9_2) = true := decide_eq_true c10
                clear c10
                by_cases c11 : x9_2 < (l0.length : Int)
                · rw [if_pos c11] at H
                  have c11b0 : decide (x9_2 < (l0.length : Int)) = true := decide_eq_true c11
                  clear c11
                  by_cases c12 : (wrap64 (rd l0 x9_2)) = 0
                  · rw [if_pos c12] at H
                    have c12b0 : ((wrap64 (rd l0 x9_2)) == 0) = true := beq_iff_eq.mpr c12
                    have c12b1 : ((wrap64 (rd l0 x9_2)) != 0) = false := bne_eq_false_iff_eq.mpr c12
                    clear c12
                    by_cases c13 : x10_2 < 0
                    · rw [if_pos c13] at H
                      have c13b0 : decide (x10_2 < 0) = true := decide_eq_true c13
                      clear c13
                      by_cases c14 : x7_2.length < 140737488355328
                      · rw [if_pos c14] at H
                        have LMc14 := Aside0.mk c14
                        clear c14
                        obtain ⟨y103, hy103⟩ : ∃ y_ : List Int, y_ = (x7_2 ++ [0]) := ⟨_, rfl⟩
                        replace H : (some (strOfNums y103, wrap64 (x9_2 + 1), 0, 0)) = some (r1, r2, r3, r4) := by first | (rw [hy103]; with_reducible exact H) | (have H2_ := (Option.bind_some _ _).symm.trans H; rw [hy103]; with_reducible exact H2_) | (have H2_ := (Option.bind_some _ _).symm.trans H; with_reducible exact H2_) | with_reducible exact H | (rw [hy103]; exact H) | exact H
                        have Ny103 := Aside0.mk hy103
                        clear hy103
                        simp only [Option.some.injEq, Prod.mk.injEq] at H
                        obtain ⟨rfl, rfl, rfl, rfl⟩ := H
                        have p102 : 0 ≤ (x9_2 : Int) := of_decide_eq_true (by first | (with_reducible assumption) | assumption)
                        have q102 : x9_2 < (l0.length : Int) := of_decide_eq_true (by first | (with_reducible assumption) | assumption)
                        obtain ⟨ad102, e102, hx102_0⟩ := Kd.at_int HR0.out x9_2 p102 q102
                        cases e102
                        replace hx102_0 := (HB.out.cell (World.block_lt_of_cell? w _ hx102_0)).trans hx102_0
                        replace p102 := eq_true p102
                        replace q102 := eq_true q102
                        go_wp2_with (first | ((with_reducible refine gate_builtin (b := .append) (xs := #[.tmp 101, .tmp 102]) rfl ?_); (try (refine gate_guard (by rfl) ?_; dsimp only)); at_builtin; refine Kd.R_append (Kd.int .u8) (w0 := w) w.heap.size rfl (.tmp 101) (.tmp 102) 22 5 (.int .u8 0) 1 rfl Try.underlying22 info5 rfl (by decide) (by omega) u7 x7_2 0 [.int .u8 0] (fun _ => True) (fun _ => False) rfl rfl ?aP (fun _ hk => hk.elim) ?aF ?aO ?aB ?aS ?aL ?_; (case aP => exact rfl); (case aB => exact (by repeat (first | (with_reducible first | exact HB.out | apply below_alloc | apply pw_below_drewN | apply below_drew1 | refine below_set ?_ GE101.out) | exact HB.out))); (case aF => exact (fun _ _ => trivial)); (case aO => exact (by (with_reducible repeat (first | apply Kd.R_alloc | apply Kd.R_drewN | apply Kd.R_drew)); exact HO_7.out)); (case aS => exact (below_size (by repeat (first | (with_reducible first | exact HB.out | apply below_alloc | apply pw_below_drewN | apply below_drew1 | refine below_set ?_ GE101.out) | exact HB.out)))); (case aL => have := LMc14.out; omega); intro v104 w15 ho hb hg hat; rw [← Ny103.out] at ho; have n0_ := Aside0.mk (blk_grown (g := gb101) (o := .cells #[.int .i64 x102000_2, .int .i64 x102001_2] 31 (0, 0)) (by (with_reducible repeat (first | refine blk_drewN ?_ _ | refine blk_drew ?_ | refine blk_alloc ?_ _)); exact BK101.out) hg (Kd.R_ne HO_7.out BK101.out (by decide))); have n1_ := Aside0.mk (hb); have n2_ := Aside0.mk (ho); clear BK101; clear HB; clear HO_7; have BK101 := n0_; have HB := n1_; have HO105 := n2_; clear n0_ n1_ n2_; clear ho hb hg hat; have hcv16 := own_string (P := Try.prog) Try.underlying22 Try.underlying5 Try.underlying9 (Kd.own_of_R HO105.out); have hcz17_0 : w15.cell? ⟨gb101, 0, none⟩ = some (.int .i64 x102000_2) := (blk_cell BK101.out 0).trans rfl; have hcz17_1 : w15.cell? ⟨gb101, 1, none⟩ = some (.int .i64 x102001_2) := (blk_cell BK101.out 1).trans rfl; have hfz17_0 := blk_frozen BK101.out 0; have hfz17_1 := blk_frozen BK101.out 1))
                        (try rw [Exit.noGoto_ret])
                        refine bodyPost_ret (results_list (rs := [.tmp 4, .tmp 5, .cell 6 31]) rfl (by simp) (.tmp (.tmp (.cell gb101 31 #[.int .i64 0, .int .i64 0] (0, 0) _ rfl (by (with_reducible repeat (first | refine blk_drewN ?_ _ | refine blk_drew ?_ | refine blk_alloc ?_ _)); refine blk_put (cs := #[.int .i64 0, .int .i64 x102001_2]) ?_ 1 _ rfl; (with_reducible repeat (first | refine blk_drewN ?_ _ | refine blk_drew ?_ | refine blk_alloc ?_ _)); refine blk_put (cs := #[.int .i64 x102000_2, .int .i64 x102001_2]) ?_ 0 _ rfl; (with_reducible repeat (first | refine blk_drewN ?_ _ | refine blk_drew ?_ | refine blk_alloc ?_ _)); exact BK101.out) Try.underlying31 rfl (by kernel_rfl) .nil)))) rfl ?_
                        exact ⟨by first | rfl | (simp [errW_none, errW_some] <;> rfl) | (simp [*, errW_none, errW_some] <;> rfl), by repeat (first | (with_reducible first | exact HB.out | apply below_alloc | apply pw_below_drewN | apply below_drew1 | refine below_set ?_ GE101.out) | exact HB.out)⟩
                      · rw [if_neg c14] at H
                        exact absurd H (by simp)
                    · rw [if_neg c13] at H
                      have c13b0 : decide (x10_2 < 0) = false := decide_eq_false c13
                      clear c13
                      by_cases c18 : x7_2.length < 140737488355328
                      · rw [if_pos c18] at H
                        have LMc18 := Aside0.mk c18
                        clear c18
                        obtain ⟨y106, hy106⟩ : ∃ y_ : List Int, y_ = (x7_2 ++ [0]) := ⟨_, rfl⟩
                        replace H : (some (strOfNums y106, x10_2, 0, 0)) = some (r1, r2, r3, r4) := by first | (rw [hy106]; with_reducible exact H) | (have H2_ := (Option.bind_some _ _).symm.trans H; rw [hy106]; with_reducible exact H2_) | (have H2_ := (Option.bind_some _ _).symm.trans H; with_reducible exact H2_) | with_reducible exact H | (rw [hy106]; exact H) | exact H
                        have Ny106 := Aside0.mk hy106
                        clear hy106
                        simp only [Option.some.injEq, Prod.mk.injEq] at H
                        obtain ⟨rfl, rfl, rfl, rfl⟩ := H
                        have p102 : 0 ≤ (x9_2 : Int) := of_decide_eq_true (by first | (with_reducible assumption) | assumption)
                        have q102 : x9_2 < (l0.length : Int) := of_decide_eq_true (by first | (with_reducible assumption) | assumption)
                        obtain ⟨ad102, e102, hx102_0⟩ := Kd.at_int HR0.out x9_2 p102 q102
                        cases e102
                        replace hx102_0 := (HB.out.cell (World.block_lt_of_cell? w _ hx102_0)).trans hx102_0
                        replace p102 := eq_true p102
                        replace q102 := eq_true q102
                        go_wp2_with (first | ((with_reducible refine gate_builtin (b := .append) (xs := #[.tmp 101, .tmp 102]) rfl ?_); (try (refine gate_guard (by rfl) ?_; dsimp only)); at_builtin; refine Kd.R_append (Kd.int .u8) (w0 := w) w.heap.size rfl (.tmp 101) (.tmp 102) 22 5 (.int .u8 0) 1 rfl Try.underlying22 info5 rfl (by decide) (by omega) u7 x7_2 0 [.int .u8 0] (fun _ => True) (fun _ => False) rfl rfl ?aP (fun _ hk => hk.elim) ?aF ?aO ?aB ?aS ?aL ?_; (case aP => exact rfl); (case aB => exact (by repeat (first | (with_reducible first | exact HB.out | apply below_alloc | apply pw_below_drewN | apply below_drew1 | refine below_set ?_ GE101.out) | exact HB.out))); (case aF => exact (fun _ _ => trivial)); (case aO => exact (by (with_reducible repeat (first | apply Kd.R_alloc | apply Kd.R_drewN | apply Kd.R_drew)); exact HO_7.out)); (case aS => exact (below_size (by repeat (first | (with_reducible first | exact HB.out | apply below_alloc | apply pw_below_drewN | apply below_drew1 | refine below_set ?_ GE101.out) | exact HB.out)))); (case aL => have := LMc18.out; omega); intro v107 w19 ho hb hg hat; rw [← Ny106.out] at ho; have n0_ := Aside0.mk (blk_grown (g := gb101) (o := .cells #[.int .i64 x102000_2, .int .i64 x102001_2] 31 (0, 0)) (by (with_reducible repeat (first | refine blk_drewN ?_ _ | refine blk_drew ?_ | refine blk_alloc ?_ _)); exact BK101.out) hg (Kd.R_ne HO_7.out BK101.out (by decide))); have n1_ := Aside0.mk (hb); have n2_ := Aside0.mk (ho); clear BK101; clear HB; clear HO_7; have BK101 := n0_; have HB := n1_; have HO108 := n2_; clear n0_ n1_ n2_; clear ho hb hg hat; have hcv20 := own_string (P := Try.prog) Try.underlying22 Try.underlying5 Try.underlying9 (Kd.own_of_R HO108.out); have hcz21_0 : w19.cell? ⟨gb101, 0, none⟩ = some (.int .i64 x102000_2) := (blk_cell BK101.out 0).trans rfl; have hcz21_1 : w19.cell? ⟨gb101, 1, none⟩ = some (.int .i64 x102001_2) := (blk_cell BK101.out 1).trans rfl; have hfz21_0 := blk_frozen BK101.out 0; have hfz21_1 := blk_frozen BK101.out 1))
                        (try rw [Exit.noGoto_ret])
                        refine bodyPost_ret (results_list (rs := [.tmp 4, .tmp 5, .cell 6 31]) rfl (by simp) (.tmp (.tmp (.cell gb101 31 #[.int .i64 0, .int .i64 0] (0, 0) _ rfl (by (with_reducible repeat (first | refine blk_drewN ?_ _ | refine blk_drew ?_ | refine blk_alloc ?_ _)); refine blk_put (cs := #[.int .i64 0, .int .i64 x102001_2]) ?_ 1 _ rfl; (with_reducible repeat (first | refine blk_drewN ?_ _ | refine blk_drew ?_ | refine blk_alloc ?_ _)); refine blk_put (cs := #[.int .i64 x102000_2, .int .i64 x102001_2]) ?_ 0 _ rfl; (with_reducible repeat (first | refine blk_drewN ?_ _ | refine blk_drew ?_ | refine blk_alloc ?_ _)); exact BK101.out) Try.underlying31 rfl (by kernel_rfl) .nil)))) rfl ?_
                        exact ⟨by first | rfl | (simp [errW_none, errW_some] <;> rfl) | (simp [*, errW_none, errW_some] <;> rfl), by repeat (first | (with_reducible first | exact HB.out | apply below_alloc | apply pw_below_drewN | apply below_drew1 | refine below_set ?_ GE101.out) | exact HB.out)⟩
                      · rw [if_neg c18] at H
                        exact absurd H (by simp)
                  · rw [if_neg c12] at H
                    have c12b0 : ((wrap64 (rd l0 x9_2)) == 0) = false := beq_eq_false_iff_ne.mpr c12
                    have c12b1 : ((wrap64 (rd l0 x9_2)) != 0) = true := bne_iff_ne.mpr c12
                    by_cases c22 : (wrap64 (rd l0 x9_2)) ≥ 192
                    · rw [if_pos c22] at H
                      have c22b0 : decide (192 ≤ (wrap64 (rd l0 x9_2))) = true := decide_eq_true c22
                      clear c22
                      replace H := Option.bind_eq_some_iff.mp H
                      obtain ⟨⟨t109, t110, t111, t112⟩, A230, H⟩ := H
                      replace H : (if t111 = 0 then (if (Go.bits .and .i64 t109 16383) ≥ x8_2 then (some ((⟨#[]⟩ : ByteArray), 0, 150, x9_2)) else (if x10_2 < 0 then (wire_Read.l0 k2 l0 a1 x7_2 (Go.bits .and .i64 t109 16383) (Go.bits .and .i64 t109 16383) t110) else (wire_Read.l0 k2 l0 a1 x7_2 (Go.bits .and .i64 t109 16383) (Go.bits .and .i64 t109 16383) x10_2))) else (some ((⟨#[]⟩ : ByteArray), 0, t111, t112))) = some (r1, r2, r3, r4) := H
                      have A23 := Aside0.mk A230
                      clear A230
                      by_cases c24 : t111 = 0
                      · rw [if_pos c24] at H
                        have c24b0 : (t111 == 0) = true := beq_iff_eq.mpr c24
                        have c24b1 : (t111 != 0) = false := bne_eq_false_iff_eq.mpr c24
                        clear c24
                        by_cases c25 : (Go.bits .and .i64 t109 16383) ≥ x8_2
                        · rw [if_pos c25] at H
                          have c25b0 : decide (x8_2 ≤ (Go.bits .and .i64 t109 16383)) = true := decide_eq_true c25
                          clear c25
                          simp only [Option.some.injEq, Prod.mk.injEq] at H
                          obtain ⟨rfl, rfl, rfl, rfl⟩ := H
                          have p102 : 0 ≤ (x9_2 : Int) := of_decide_eq_true (by first | (with_reducible assumption) | assumption)
                          have q102 : x9_2 < (l0.length : Int) := of_decide_eq_true (by first | (with_reducible assumption) | assumption)
                          obtain ⟨ad102, e102, hx102_0⟩ := Kd.at_int HR0.out x9_2 p102 q102
                          cases e102
                          replace hx102_0 := (HB.out.cell (World.block_lt_of_cell? w _ hx102_0)).trans hx102_0
                          replace p102 := eq_true p102
                          replace q102 := eq_true q102
                          go_wp2_with (first | ((with_reducible refine gate_callee (f := 35) rfl ?_); refine goesL_ (some 76) rfl rfl Try.func35 (by kernel_rfl) rfl #[.slice (some ad102) l0.length c0, .int .i64 x9_2] rfl (by (try simp only [List.map_toArray, List.map_cons, List.map_nil]); first | done | rfl | (simp only [List.length_drop, List.length_take]; rfl)) ?_; (with_reducible refine (octet_Get16.calls _ _ l0 x9_2 t109 t110 t111 t112 _ ?side1 ?side2 A23.out).mono ?_); (case side1 => repeat (first | exact (Kd.C_below HR0.out HB.out) | (with_reducible refine Kd.C_alloc ?_ _) | (with_reducible refine Kd.C_drewN ?_ _) | (with_reducible refine Kd.C_drew ?_))); (case side2 => exact HC0.out); rintro e w26 ⟨rfl, hb⟩; refine ⟨_, rfl, ?_⟩; have n0_ := Aside0.mk (Kd.R_below (by (with_reducible repeat (first | apply Kd.R_alloc | apply Kd.R_drewN | apply Kd.R_drew)); exact HO_7.out) hb); have n1_ := Aside0.mk (blk_below (g := gb101) (o := .cells #[.int .i64 x102000_2, .int .i64 x102001_2] 31 (0, 0)) (by (with_reducible repeat (first | refine blk_drewN ?_ _ | refine blk_drew ?_ | refine blk_alloc ?_ _)); exact BK101.out) hb); have n2_ := Aside0.mk (below_step (by repeat (first | (with_reducible first | exact HB.out | apply below_alloc | apply pw_below_drewN | apply below_drew1 | refine below_set ?_ GE101.out) | exact HB.out)) hb); clear HO_7; clear BK101; clear HB; have HO_7 := n0_; have BK101 := n1_; have HB := n2_; clear n0_ n1_ n2_; (try clear hb); (try clear hb2); (try clear hk); (try clear hi)) | ((with_reducible refine gate_dst (N := 14) rfl ?_); (try (refine gate_guard (by rfl) ?_; dsimp only)); refine box_event ?hg (N := 14) ?hd (cs := #[.int .i64 0, .int .i64 0]) (t := 31) ?hr ?_; (case hd => rfl); (case hg => rfl); (case hr => first | (go_simp; done) | (go_simp; rfl)); intro gb113 hg w27 hbox hb; have n0_ := Aside0.mk (Kd.R_below (by (with_reducible repeat (first | apply Kd.R_alloc | apply Kd.R_drewN | apply Kd.R_drew)); exact HO_7.out) hb); have n1_ := Aside0.mk (blk_below (g := gb101) (o := .cells #[.int .i64 x102000_2, .int .i64 x102001_2] 31 (0, 0)) (by (with_reducible repeat (first | refine blk_drewN ?_ _ | refine blk_drew ?_ | refine blk_alloc ?_ _)); exact BK101.out) hb); have n2_ := Aside0.mk (below_step (by repeat (first | (with_reducible first | exact HB.out | apply below_alloc | apply pw_below_drewN | apply below_drew1 | refine below_set ?_ GE101.out) | exact HB.out)) hb); have n3_ := Aside0.mk (hbox); have n4_ := Aside0.mk ((by rw [hg]; exact (below_size (by repeat (first | (with_reducible first | exact HB.out | apply below_alloc | apply pw_below_drewN | apply below_drew1 | refine below_set ?_ GE101.out) | exact HB.out))) : w.heap.size ≤ gb113)); have n5_ := Aside0.mk ((by rw [hg]; exact (below_size (by repeat (first | (with_reducible first | exact HB.out | apply below_alloc | apply pw_below_drewN | apply below_drew1 | refine below_set ?_ GE101.out) | exact HB.out))) : w.heap.size ≤ gb113)); have n6_ := Aside0.mk ((by rw [hg]; exact Nat.ne_of_lt (blk_lt (g := gb101) (o := .cells #[.int .i64 x102000_2, .int .i64 x102001_2] 31 (0, 0)) (by (with_reducible repeat (first | refine blk_drewN ?_ _ | refine blk_drew ?_ | refine blk_alloc ?_ _)); exact BK101.out)) : gb101 ≠ gb113)); have n7_ := Aside0.mk ((by rw [hg]; exact Nat.ne_of_gt (blk_lt (g := gb101) (o := .cells #[.int .i64 x102000_2, .int .i64 x102001_2] 31 (0, 0)) (by (with_reducible repeat (first | refine blk_drewN ?_ _ | refine blk_drew ?_ | refine blk_alloc ?_ _)); exact BK101.out)) : gb113 ≠ gb101)); clear HO_7; clear BK101; clear HB; have HO_7 := n0_; have BK101 := n1_; have HB := n2_; have BK113 := n3_; have GW113 := n4_; have GE113 := n5_; have NB101_113 := n6_; have NB113_101 := n7_; clear n0_ n1_ n2_ n3_ n4_ n5_ n6_ n7_; clear hb hbox hg; have hnb28 := NB113_101.out; have hnc28 := NB101_113.out; have hcz29_0 : w27.cell? ⟨gb113, 0, none⟩ = some (.int .i64 0) := (blk_cell BK113.out 0).trans rfl; have hcz29_1 : w27.cell? ⟨gb113, 1, none⟩ = some (.int .i64 0) := (blk_cell BK113.out 1).trans rfl; have hfz29_0 := blk_frozen BK113.out 0; have hfz29_1 := blk_frozen BK113.out 1; have hcz30_0 : w27.cell? ⟨gb101, 0, none⟩ = some (.int .i64 x102000_2) := (blk_cell BK101.out 0).trans rfl; have hcz30_1 : w27.cell? ⟨gb101, 1, none⟩ = some (.int .i64 x102001_2) := (blk_cell BK101.out 1).trans rfl; have hfz30_0 := blk_frozen BK101.out 0; have hfz30_1 := blk_frozen BK101.out 1))
                          (try rw [Exit.noGoto_ret])
                          refine bodyPost_ret (results_list (rs := [.tmp 4, .tmp 5, .cell 6 31]) rfl (by simp) (.tmp (.tmp (.cell gb101 31 #[.int .i64 150, .int .i64 x9_2] (0, 0) _ rfl (by (with_reducible repeat (first | refine blk_drewN ?_ _ | refine blk_drew ?_ | refine blk_alloc ?_ _)); refine blk_put (cs := #[.int .i64 150, .int .i64 x102001_2]) ?_ 1 _ rfl; (with_reducible repeat (first | refine blk_drewN ?_ _ | refine blk_drew ?_ | refine blk_alloc ?_ _)); refine blk_put (cs := #[.int .i64 x102000_2, .int .i64 x102001_2]) ?_ 0 _ rfl; (with_reducible repeat (first | refine blk_drewN ?_ _ | refine blk_drew ?_ | refine blk_alloc ?_ _)); refine blk_far ?_ NB101_113.out _; (with_reducible repeat (first | refine blk_drewN ?_ _ | refine blk_drew ?_ | refine blk_alloc ?_ _)); refine blk_far ?_ NB101_113.out _; (with_reducible repeat (first | refine blk_drewN ?_ _ | refine blk_drew ?_ | refine blk_alloc ?_ _)); exact BK101.out) Try.underlying31 rfl (by kernel_rfl) .nil)))) rfl ?_
                          exact ⟨by first | rfl | (simp [errW_none, errW_some] <;> rfl) | (simp [*, errW_none, errW_some] <;> rfl), by repeat (first | (with_reducible first | exact HB.out | apply below_alloc | apply pw_below_drewN | apply below_drew1 | refine below_set ?_ GE101.out | refine below_set ?_ GE113.out) | exact HB.out)⟩
                        · rw [if_neg c25] at H
                          have c25b0 : decide (x8_2 ≤ (Go.bits .and .i64 t109 16383)) = false := decide_eq_false c25
                          clear c25
                          by_cases c31 : x10_2 < 0
                          · rw [if_pos c31] at H
                            have c31b0 : decide (x10_2 < 0) = true := decide_eq_true c31
                            clear c31
                            have H' := Aside0.mk H
                            clear H
                            have p102 : 0 ≤ (x9_2 : Int) := of_decide_eq_true (by first | (with_reducible assumption) | assumption)
                            have q102 : x9_2 < (l0.length : Int) := of_decide_eq_true (by first | (with_reducible assumption) | assumption)
                            obtain ⟨ad102, e102, hx102_0⟩ := Kd.at_int HR0.out x9_2 p102 q102
                            cases e102
                            replace hx102_0 := (HB.out.cell (World.block_lt_of_cell? w _ hx102_0)).trans hx102_0
                            replace p102 := eq_true p102
                            replace q102 := eq_true q102
                            go_wp2_with (first | ((with_reducible refine gate_callee (f := 35) rfl ?_); refine goesL_ (some 76) rfl rfl Try.func35 (by kernel_rfl) rfl #[.slice (some ad102) l0.length c0, .int .i64 x9_2] rfl (by (try simp only [List.map_toArray, List.map_cons, List.map_nil]); first | done | rfl | (simp only [List.length_drop, List.length_take]; rfl)) ?_; (with_reducible refine (octet_Get16.calls _ _ l0 x9_2 t109 t110 t111 t112 _ ?side1 ?side2 A23.out).mono ?_); (case side1 => repeat (first | exact (Kd.C_below HR0.out HB.out) | (with_reducible refine Kd.C_alloc ?_ _) | (with_reducible refine Kd.C_drewN ?_ _) | (with_reducible refine Kd.C_drew ?_))); (case side2 => exact HC0.out); rintro e w32 ⟨rfl, hb⟩; refine ⟨_, rfl, ?_⟩; have n0_ := Aside0.mk (Kd.R_below (by (with_reducible repeat (first | apply Kd.R_alloc | apply Kd.R_drewN | apply Kd.R_drew)); exact HO_7.out) hb); have n1_ := Aside0.mk (blk_below (g := gb101) (o := .cells #[.int .i64 x102000_2, .int .i64 x102001_2] 31 (0, 0)) (by (with_reducible repeat (first | refine blk_drewN ?_ _ | refine blk_drew ?_ | refine blk_alloc ?_ _)); exact BK101.out) hb); have n2_ := Aside0.mk (below_step (by repeat (first | (with_reducible first | exact HB.out | apply below_alloc | apply pw_below_drewN | apply below_drew1 | refine below_set ?_ GE101.out) | exact HB.out)) hb); clear HO_7; clear BK101; clear HB; have HO_7 := n0_; have BK101 := n1_; have HB := n2_; clear n0_ n1_ n2_; (try clear hb); (try clear hb2); (try clear hk); (try clear hi)) | ((with_reducible refine gate_dst (N := 14) rfl ?_); (try (refine gate_guard (by rfl) ?_; dsimp only)); refine box_event ?hg (N := 14) ?hd (cs := #[.int .i64 0, .int .i64 0]) (t := 31) ?hr ?_; (case hd => rfl); (case hg => rfl); (case hr => first | (go_simp; done) | (go_simp; rfl)); intro gb113 hg w33 hbox hb; have n0_ := Aside0.mk (Kd.R_below (by (with_reducible repeat (first | apply Kd.R_alloc | apply Kd.R_drewN | apply Kd.R_drew)); exact HO_7.out) hb); have n1_ := Aside0.mk (blk_below (g := gb101) (o := .cells #[.int .i64 x102000_2, .int .i64 x102001_2] 31 (0, 0)) (by (with_reducible repeat (first | refine blk_drewN ?_ _ | refine blk_drew ?_ | refine blk_alloc ?_ _)); exact BK101.out) hb); have n2_ := Aside0.mk (below_step (by repeat (first | (with_reducible first | exact HB.out | apply below_alloc | apply pw_below_drewN | apply below_drew1 | refine below_set ?_ GE101.out) | exact HB.out)) hb); have n3_ := Aside0.mk (hbox); have n4_ := Aside0.mk ((by rw [hg]; exact (below_size (by repeat (first | (with_reducible first | exact HB.out | apply below_alloc | apply pw_below_drewN | apply below_drew1 | refine below_set ?_ GE101.out) | exact HB.out))) : w.heap.size ≤ gb113)); have n5_ := Aside0.mk ((by rw [hg]; exact (below_size (by repeat (first | (with_reducible first | exact HB.out | apply below_alloc | apply pw_below_drewN | apply below_drew1 | refine below_set ?_ GE101.out) | exact HB.out))) : w.heap.size ≤ gb113)); have n6_ := Aside0.mk ((by rw [hg]; exact Nat.ne_of_lt (blk_lt (g := gb101) (o := .cells #[.int .i64 x102000_2, .int .i64 x102001_2] 31 (0, 0)) (by (with_reducible repeat (first | refine blk_drewN ?_ _ | refine blk_drew ?_ | refine blk_alloc ?_ _)); exact BK101.out)) : gb101 ≠ gb113)); have n7_ := Aside0.mk ((by rw [hg]; exact Nat.ne_of_gt (blk_lt (g := gb101) (o := .cells #[.int .i64 x102000_2, .int .i64 x102001_2] 31 (0, 0)) (by (with_reducible repeat (first | refine blk_drewN ?_ _ | refine blk_drew ?_ | refine blk_alloc ?_ _)); exact BK101.out)) : gb113 ≠ gb101)); clear HO_7; clear BK101; clear HB; have HO_7 := n0_; have BK101 := n1_; have HB := n2_; have BK113 := n3_; have GW113 := n4_; have GE113 := n5_; have NB101_113 := n6_; have NB113_101 := n7_; clear n0_ n1_ n2_ n3_ n4_ n5_ n6_ n7_; clear hb hbox hg; have hnb34 := NB113_101.out; have hnc34 := NB101_113.out; have hcz35_0 : w33.cell? ⟨gb113, 0, none⟩ = some (.int .i64 0) := (blk_cell BK113.out 0).trans rfl; have hcz35_1 : w33.cell? ⟨gb113, 1, none⟩ = some (.int .i64 0) := (blk_cell BK113.out 1).trans rfl; have hfz35_0 := blk_frozen BK113.out 0; have hfz35_1 := blk_frozen BK113.out 1))
                            go_roundg k2
                            case measure => have := HJ2.out; have := HK2.out; omega
                            case rel => exact ⟨(x7_2), (Go.bits .and .i64 t109 16383), (Go.bits .and .i64 t109 16383), (t110), (x102000_2), (x102001_2), (by first | rfl | (simp; done) | (simp [*]; done)), (by first | rfl | (simp; done) | (simp [*]; done)), (by first | rfl | (simp; done) | (simp [*]; done)), H', ⟨by have := HJ2.out; have := HK2.out; omega⟩, ⟨by (with_reducible repeat (first | apply Kd.R_alloc | apply Kd.R_drewN | apply Kd.R_drew)); exact Kd.R_mono (Kd.R_far (p := ⟨gb113, 1, none⟩) (Kd.R_far (p := ⟨gb113, 0, none⟩) (Kd.R_types HO_7.out BK113.out (by decide)) (fun _ hk => hk.2) (.int .i64 t111)) (fun _ hk => hk.2) (.int .i64 t112)) (fun _ hk => trivial)⟩, ⟨by (with_reducible repeat (first | refine blk_drewN ?_ _ | refine blk_drew ?_ | refine blk_alloc ?_ _)); refine blk_far ?_ NB101_113.out _; (with_reducible repeat (first | refine blk_drewN ?_ _ | refine blk_drew ?_ | refine blk_alloc ?_ _)); refine blk_far ?_ NB101_113.out _; (with_reducible repeat (first | refine blk_drewN ?_ _ | refine blk_drew ?_ | refine blk_alloc ?_ _)); exact BK101.out⟩, ⟨by repeat (first | (with_reducible first | exact HB.out | apply below_alloc | apply pw_below_drewN | apply below_drew1 | refine below_set ?_ GE101.out | refine below_set ?_ GE113.out) | exact HB.out)⟩⟩
                          · rw [if_neg c31] at H
                            have c31b0 : decide (x10_2 < 0) = false := decide_eq_false c31
                            clear c31
                            have H' := Aside0.mk H
                            clear H
                            have p102 : 0 ≤ (x9_2 : Int) := of_decide_eq_true (by first | (with_reducible assumption) | assumption)
                            have q102 : x9_2 < (l0.length : Int) := of_decide_eq_true (by first | (with_reducible assumption) | assumption)
                            obtain ⟨ad102, e102, hx102_0⟩ := Kd.at_int HR0.out x9_2 p102 q102
                            cases e102
                            replace hx102_0 := (HB.out.cell (World.block_lt_of_cell? w _ hx102_0)).trans hx102_0
                            replace p102 := eq_true p102
                            replace q102 := eq_true q102
                            go_wp2_with (first | ((with_reducible refine gate_callee (f := 35) rfl ?_); refine goesL_ (some 76) rfl rfl Try.func35 (by kernel_rfl) rfl #[.slice (some ad102) l0.length c0, .int .i64 x9_2] rfl (by (try simp only [List.map_toArray, List.map_cons, List.map_nil]); first | done | rfl | (simp only [List.length_drop, List.length_take]; rfl)) ?_; (with_reducible refine (octet_Get16.calls _ _ l0 x9_2 t109 t110 t111 t112 _ ?side1 ?side2 A23.out).mono ?_); (case side1 => repeat (first | exact (Kd.C_below HR0.out HB.out) | (with_reducible refine Kd.C_alloc ?_ _) | (with_reducible refine Kd.C_drewN ?_ _) | (with_reducible refine Kd.C_drew ?_))); (case side2 => exact HC0.out); rintro e w36 ⟨rfl, hb⟩; refine ⟨_, rfl, ?_⟩; have n0_ := Aside0.mk (Kd.R_below (by (with_reducible repeat (first | apply Kd.R_alloc | apply Kd.R_drewN | apply Kd.R_drew)); exact HO_7.out) hb); have n1_ := Aside0.mk (blk_below (g := gb101) (o := .cells #[.int .i64 x102000_2, .int .i64 x102001_2] 31 (0, 0)) (by (with_reducible repeat (first | refine blk_drewN ?_ _ | refine blk_drew ?_ | refine blk_alloc ?_ _)); exact BK101.out) hb); have n2_ := Aside0.mk (below_step (by repeat (first | (with_reducible first | exact HB.out | apply below_alloc | apply pw_below_drewN | apply below_drew1 | refine below_set ?_ GE101.out) | exact HB.out)) hb); clear HO_7; clear BK101; clear HB; have HO_7 := n0_; have BK101 := n1_; have HB := n2_; clear n0_ n1_ n2_; (try clear hb); (try clear hb2); (try clear hk); (try clear hi)) | ((with_reducible refine gate_dst (N := 14) rfl ?_); (try (refine gate_guard (by rfl) ?_; dsimp only)); refine box_event ?hg (N := 14) ?hd (cs := #[.int .i64 0, .int .i64 0]) (t := 31) ?hr ?_; (case hd => rfl); (case hg => rfl); (case hr => first | (go_simp; done) | (go_simp; rfl)); intro gb113 hg w37 hbox hb; have n0_ := Aside0.mk (Kd.R_below (by (with_reducible repeat (first | apply Kd.R_alloc | apply Kd.R_drewN | apply Kd.R_drew)); exact HO_7.out) hb); have n1_ := Aside0.mk (blk_below (g := gb101) (o := .cells #[.int .i64 x102000_2, .int .i64 x102001_2] 31 (0, 0)) (by (with_reducible repeat (first | refine blk_drewN ?_ _ | refine blk_drew ?_ | refine blk_alloc ?_ _)); exact BK101.out) hb); have n2_ := Aside0.mk (below_step (by repeat (first | (with_reducible first | exact HB.out | apply below_alloc | apply pw_below_drewN | apply below_drew1 | refine below_set ?_ GE101.out) | exact HB.out)) hb); have n3_ := Aside0.mk (hbox); have n4_ := Aside0.mk ((by rw [hg]; exact (below_size (by repeat (first | (with_reducible first | exact HB.out | apply below_alloc | apply pw_below_drewN | apply below_drew1 | refine below_set ?_ GE101.out) | exact HB.out))) : w.heap.size ≤ gb113)); have n5_ := Aside0.mk ((by rw [hg]; exact (below_size (by repeat (first | (with_reducible first | exact HB.out | apply below_alloc | apply pw_below_drewN | apply below_drew1 | refine below_set ?_ GE101.out) | exact HB.out))) : w.heap.size ≤ gb113)); have n6_ := Aside0.mk ((by rw [hg]; exact Nat.ne_of_lt (blk_lt (g := gb101) (o := .cells #[.int .i64 x102000_2, .int .i64 x102001_2] 31 (0, 0)) (by (with_reducible repeat (first | refine blk_drewN ?_ _ | refine blk_drew ?_ | refine blk_alloc ?_ _)); exact BK101.out)) : gb101 ≠ gb113)); have n7_ := Aside0.mk ((by rw [hg]; exact Nat.ne_of_gt (blk_lt (g := gb101) (o := .cells #[.int .i64 x102000_2, .int .i64 x102001_2] 31 (0, 0)) (by (with_reducible repeat (first | refine blk_drewN ?_ _ | refine blk_drew ?_ | refine blk_alloc ?_ _)); exact BK101.out)) : gb113 ≠ gb101)); clear HO_7; clear BK101; clear HB; have HO_7 := n0_; have BK101 := n1_; have HB := n2_; have BK113 := n3_; have GW113 := n4_; have GE113 := n5_; have NB101_113 := n6_; have NB113_101 := n7_; clear n0_ n1_ n2_ n3_ n4_ n5_ n6_ n7_; clear hb hbox hg; have hnb38 := NB113_101.out; have hnc38 := NB101_113.out; have hcz39_0 : w37.cell? ⟨gb113, 0, none⟩ = some (.int .i64 0) := (blk_cell BK113.out 0).trans rfl; have hcz39_1 : w37.cell? ⟨gb113, 1, none⟩ = some (.int .i64 0) := (blk_cell BK113.out 1).trans rfl; have hfz39_0 := blk_frozen BK113.out 0; have hfz39_1 := blk_frozen BK113.out 1))
                            go_roundg k2
                            case measure => have := HJ2.out; have := HK2.out; omega
                            case rel => exact ⟨(x7_2), (Go.bits .and .i64 t109 16383), (Go.bits .and .i64 t109 16383), (x10_2), (x102000_2), (x102001_2), (by first | rfl | (simp; done) | (simp [*]; done)), (by first | rfl | (simp; done) | (simp [*]; done)), (by first | rfl | (simp; done) | (simp [*]; done)), H', ⟨by have := HJ2.out; have := HK2.out; omega⟩, ⟨by (with_reducible repeat (first | apply Kd.R_alloc | apply Kd.R_drewN | apply Kd.R_drew)); exact Kd.R_mono (Kd.R_far (p := ⟨gb113, 1, none⟩) (Kd.R_far (p := ⟨gb113, 0, none⟩) (Kd.R_types HO_7.out BK113.out (by decide)) (fun _ hk => hk.2) (.int .i64 t111)) (fun _ hk => hk.2) (.int .i64 t112)) (fun _ hk => trivial)⟩, ⟨by (with_reducible repeat (first | refine blk_drewN ?_ _ | refine blk_drew ?_ | refine blk_alloc ?_ _)); refine blk_far ?_ NB101_113.out _; (with_reducible repeat (first | refine blk_drewN ?_ _ | refine blk_drew ?_ | refine blk_alloc ?_ _)); refine blk_far ?_ NB101_113.out _; (with_reducible repeat (first | refine blk_drewN ?_ _ | refine blk_drew ?_ | refine blk_alloc ?_ _)); exact BK101.out⟩, ⟨by repeat (first | (with_reducible first | exact HB.out | apply below_alloc | apply pw_below_drewN | apply below_drew1 | refine below_set ?_ GE101.out | refine below_set ?_ GE113.out) | exact HB.out)⟩⟩
                      · rw [if_neg c24] at H
                        have c24b0 : (t111 == 0) = false := beq_eq_false_iff_ne.mpr c24
                        have c24b1 : (t111 != 0) = true := bne_iff_ne.mpr c24
                        simp only [Option.some.injEq, Prod.mk.injEq] at H
                        obtain ⟨rfl, rfl, rfl, rfl⟩ := H
                        have p102 : 0 ≤ (x9_2 : Int) := of_decide_eq_true (by first | (with_reducible assumption) | assumption)
                        have q102 : x9_2 < (l0.length : Int) := of_decide_eq_true (by first | (with_reducible assumption) | assumption)
                        obtain ⟨ad102, e102, hx102_0⟩ := Kd.at_int HR0.out x9_2 p102 q102
                        cases e102
                        replace hx102_0 := (HB.out.cell (World.block_lt_of_cell? w _ hx102_0)).trans hx102_0
                        replace p102 := eq_true p102
                        replace q102 := eq_true q102
                        try go_wp2_with (first | ((with_reducible refine gate_callee (f := 35) rfl ?_); refine goesL_ (some 76) rfl rfl Try.func35 (by kernel_rfl) rfl #[.slice (some ad102) l0.length c0, .int .i64 x9_2] rfl (by (try simp only [List.map_toArray, List.map_cons, List.map_nil]); first | done | rfl | (simp only [List.length_drop, List.length_take]; rfl)) ?_; (with_reducible refine (octet_Get16.calls _ _ l0 x9_2 t109 t110 t111 t112 _ ?side1 ?side2 A23.out).mono ?_); (case side1 => repeat (first | exact (Kd.C_below HR0.out HB.out) | (with_reducible refine Kd.C_alloc ?_ _) | (with_reducible refine Kd.C_drewN ?_ _) | (with_reducible refine Kd.C_drew ?_))); (case side2 => exact HC0.out); rintro e w40 ⟨rfl, hb⟩; refine ⟨_, rfl, ?_⟩; have n0_ := Aside0.mk (Kd.R_below (by (with_reducible repeat (first | apply Kd.R_alloc | apply Kd.R_drewN | apply Kd.R_drew)); exact HO_7.out) hb); have n1_ := Aside0.mk (blk_below (g := gb101) (o := .cells #[.int .i64 x102000_2, .int .i64 x102001_2] 31 (0, 0)) (by (with_reducible repeat (first | refine blk_drewN ?_ _ | refine blk_drew ?_ | refine blk_alloc ?_ _)); exact BK101.out) hb); have n2_ := Aside0.mk (below_step (by repeat (first | (with_reducible first | exact HB.out | apply below_alloc | apply pw_below_drewN | apply below_drew1 | refine below_set ?_ GE101.out) | exact HB.out)) hb); clear HO_7; clear BK101; clear HB; have HO_7 := n0_; have BK101 := n1_; have HB := n2_; clear n0_ n1_ n2_; (try clear hb); (try clear hb2); (try clear hk); (try clear hi)) | ((with_reducible refine gate_dst (N := 14) rfl ?_); (try (refine gate_guard (by rfl) ?_; dsimp only)); refine box_event ?hg (N := 14) ?hd (cs := #[.int .i64 0, .int .i64 0]) (t := 31) ?hr ?_; (case hd => rfl); (case hg => rfl); (case hr => first | (go_simp; done) | (go_simp; rfl)); intro gb113 hg w41 hbox hb; have n0_ := Aside0.mk (Kd.R_below (by (with_reducible repeat (first | apply Kd.R_alloc | apply Kd.R_drewN | apply Kd.R_drew)); exact HO_7.out) hb); have n1_ := Aside0.mk (blk_below (g := gb101) (o := .cells #[.int .i64 x102000_2, .int .i64 x102001_2] 31 (0, 0)) (by (with_reducible repeat (first | refine blk_drewN ?_ _ | refine blk_drew ?_ | refine blk_alloc ?_ _)); exact BK101.out) hb); have n2_ := Aside0.mk (below_step (by repeat (first | (with_reducible first | exact HB.out | apply below_alloc | apply pw_below_drewN | apply below_drew1 | refine below_set ?_ GE101.out) | exact HB.out)) hb); have n3_ := Aside0.mk (hbox); have n4_ := Aside0.mk ((by rw [hg]; exact (below_size (by repeat (first | (with_reducible first | exact HB.out | apply below_alloc | apply pw_below_drewN | apply below_drew1 | refine below_set ?_ GE101.out) | exact HB.out))) : w.heap.size ≤ gb113)); have n5_ := Aside0.mk ((by rw [hg]; exact (below_size (by repeat (first | (with_reducible first | exact HB.out | apply below_alloc | apply pw_below_drewN | apply below_drew1 | refine below_set ?_ GE101.out) | exact HB.out))) : w.heap.size ≤ gb113)); have n6_ := Aside0.mk ((by rw [hg]; exact Nat.ne_of_lt (blk_lt (g := gb101) (o := .cells #[.int .i64 x102000_2, .int .i64 x102001_2] 31 (0, 0)) (by (with_reducible repeat (first | refine blk_drewN ?_ _ | refine blk_drew ?_ | refine blk_alloc ?_ _)); exact BK101.out)) : gb101 ≠ gb113)); have n7_ := Aside0.mk ((by rw [hg]; exact Nat.ne_of_gt (blk_lt (g := gb101) (o := .cells #[.int .i64 x102000_2, .int .i64 x102001_2] 31 (0, 0)) (by (with_reducible repeat (first | refine blk_drewN ?_ _ | refine blk_drew ?_ | refine blk_alloc ?_ _)); exact BK101.out)) : gb113 ≠ gb101)); clear HO_7; clear BK101; clear HB; have HO_7 := n0_; have BK101 := n1_; have HB := n2_; have BK113 := n3_; have GW113 := n4_; have GE113 := n5_; have NB101_113 := n6_; have NB113_101 := n7_; clear n0_ n1_ n2_ n3_ n4_ n5_ n6_ n7_; clear hb hbox hg; have hnb42 := NB113_101.out; have hnc42 := NB101_113.out; have hcz43_0 : w41.cell? ⟨gb113, 0, none⟩ = some (.int .i64 0) := (blk_cell BK113.out 0).trans rfl; have hcz43_1 : w41.cell? ⟨gb113, 1, none⟩ = some (.int .i64 0) := (blk_cell BK113.out 1).trans rfl; have hfz43_0 := blk_frozen BK113.out 0; have hfz43_1 := blk_frozen BK113.out 1))
                        have n0_ : Aside0 (Kd.R (Kd.int .u8) 5 ((w41.setCell ⟨gb113, 0, none⟩ (.int .i64 t111)).setCell ⟨gb113, 1, none⟩ (.int .i64 t112)) w.heap.size (fun _ => True) u7 x7_2) := ⟨by (with_reducible repeat (first | apply Kd.R_alloc | apply Kd.R_drewN | apply Kd.R_drew)); exact Kd.R_mono (Kd.R_far (p := ⟨gb113, 1, none⟩) (Kd.R_far (p := ⟨gb113, 0, none⟩) (Kd.R_types HO_7.out BK113.out (by decide)) (fun _ hk => hk.2) (.int .i64 t111)) (fun _ hk => hk.2) (.int .i64 t112)) (fun _ hk => trivial)⟩
                        have n1_ : Aside0 (((w41.setCell ⟨gb113, 0, none⟩ (.int .i64 t111)).setCell ⟨gb113, 1, none⟩ (.int .i64 t112)).heap[gb101]? = some (.cells #[.int .i64 x102000_2, .int .i64 x102001_2] 31 (0, 0))) := ⟨by (with_reducible repeat (first | refine blk_drewN ?_ _ | refine blk_drew ?_ | refine blk_alloc ?_ _)); refine blk_far ?_ NB101_113.out _; (with_reducible repeat (first | refine blk_drewN ?_ _ | refine blk_drew ?_ | refine blk_alloc ?_ _)); refine blk_far ?_ NB101_113.out _; (with_reducible repeat (first | refine blk_drewN ?_ _ | refine blk_drew ?_ | refine blk_alloc ?_ _)); exact BK101.out⟩
                        have n2_ : Aside0 (((w41.setCell ⟨gb113, 0, none⟩ (.int .i64 t111)).setCell ⟨gb113, 1, none⟩ (.int .i64 t112)).heap[gb113]? = some (.cells #[.int .i64 t111, .int .i64 t112] 31 (0, 0))) := ⟨by (with_reducible repeat (first | refine blk_drewN ?_ _ | refine blk_drew ?_ | refine blk_alloc ?_ _)); refine blk_put (cs := #[.int .i64 t111, .int .i64 0]) ?_ 1 _ rfl; (with_reducible repeat (first | refine blk_drewN ?_ _ | refine blk_drew ?_ | refine blk_alloc ?_ _)); refine blk_put (cs := #[.int .i64 0, .int .i64 0]) ?_ 0 _ rfl; (with_reducible repeat (first | refine blk_drewN ?_ _ | refine blk_drew ?_ | refine blk_alloc ?_ _)); exact BK113.out⟩
                        have n3_ : Aside0 (Below w.heap.size w ((w41.setCell ⟨gb113, 0, none⟩ (.int .i64 t111)).setCell ⟨gb113, 1, none⟩ (.int .i64 t112))) := ⟨by repeat (first | (with_reducible first | exact HB.out | apply below_alloc | apply pw_below_drewN | apply below_drew1 | refine below_set ?_ GE101.out | refine below_set ?_ GE113.out) | exact HB.out)⟩
                        (try clear HO_7)
                        (try clear BK101)
                        (try clear BK113)
                        (try clear HB)
                        generalize ((w41.setCell ⟨gb113, 0, none⟩ (.int .i64 t111)).setCell ⟨gb113, 1, none⟩ (.int .i64 t112)) = w44 at n0_ n1_ n2_ n3_ ⊢
                        have HO_7 := n0_
                        have BK101 := n1_
                        have BK113 := n2_
                        have HB := n3_
                        clear n0_ n1_ n2_ n3_
                        have n0_ := Aside0.mk (Kd.R_drew HO_7.out)
                        have n1_ := Aside0.mk (blk_drew BK101.out)
                        have n2_ := Aside0.mk (blk_drew BK113.out)
                        have n3_ := Aside0.mk (below_drew1 HB.out)
                        clear HO_7
                        clear BK101
                        clear BK113
                        clear HB
                        have HO_7 := n0_
                        have BK101 := n1_
                        have BK113 := n2_
                        have HB := n3_
                        clear n0_ n1_ n2_ n3_
                        refine start_ (n := 4) (S := fun w' => w'.cell? ⟨gb113, 0, none⟩ = some (.int .i64 t111) ∧ w'.cell? ⟨gb113, 1, none⟩ = some (.int .i64 t112)) (ds := []) #[false, false, false, false] (by kernel_rfl) rfl rfl ⟨(blk_cell BK113.out 0).trans rfl, (blk_cell BK113.out 1).trans rfl⟩ (fun hHeld => ?_)
                        generalize w44.drew = w45 at HO_7 BK101 BK113 HB hHeld ⊢
                        refine pure_ (i := 1) (N := some 4) (v := ?_) (a' := ?_) #[false, true, false, false] rfl rfl (by kernel_rfl) (fun _ _ _ h => h) (Or.inl ⟨by rfl, ?_⟩) ?_ ?_
                        rotate_left
                        · intro w'
                          go_simp
                          with_reducible rfl
                        rotate_left
                        · simp only [Act.put, List.setIfInBounds_toArray, List.set_cons_zero, List.set_cons_succ, i64_w, i32_w]
                          rfl
                        refine pure_ (i := 2) (N := some 5) (v := ?_) (a' := ?_) #[false, true, true, false] rfl rfl (by kernel_rfl) (fun _ _ _ h => h) (Or.inl ⟨by rfl, ?_⟩) ?_ ?_
                        rotate_left
                        · intro w'
                          go_simp
                          with_reducible rfl
                        rotate_left
                        · simp only [Act.put, List.setIfInBounds_toArray, List.set_cons_zero, List.set_cons_succ, i64_w, i32_w]
                          rfl
                        refine take_ (i := 0) (N := some 83) (v := ?_) (a' := ?_) #[true, true, true, false] rfl rfl (by kernel_rfl) (fun _ _ _ h => h) (Or.inl ⟨by rfl, ?_⟩) hHeld ?_ ?_
                        rotate_left
                        · rintro w' ⟨s0, s1⟩
                          go_simp
                          with_reducible rfl
                        rotate_left
                        · simp only [Act.put, List.setIfInBounds_toArray, List.set_cons_zero, List.set_cons_succ, i64_w, i32_w]
                          rfl
                        refine one_ (i := 3) (N := none) #[true, true, true, true] rfl rfl (by kernel_rfl) (by decide) (fun K hK => ?_)
                        have hs46 : w45.cell? ⟨gb101, 0, none⟩ = some (.int .i64 x102000_2) := (blk_cell BK101.out 0).trans rfl
                        have hfs46 := blk_frozen BK101.out 0
                        have hns46_1 := NB113_101.out
                        have hms46_1 := NB101_113.out
                        have hs47 : w45.cell? ⟨gb101, 1, none⟩ = some (.int .i64 x102001_2) := (blk_cell BK101.out 1).trans rfl
                        have hfs47 := blk_frozen BK101.out 1
                        have hns47_1 := NB113_101.out
                        have hms47_1 := NB101_113.out
                        refine skip_ (w1 := ?_) (by rfl) rfl ?_ ?_
                        rotate_left
                        · go_simp
                          rfl
                        refine hK.out _ _ ⟨((cell_far (p := ⟨gb101, _, none⟩) NB113_101.out _).trans (((cell_far (p := ⟨gb101, _, none⟩) NB113_101.out _).trans (hHeld.1)))), ((cell_far (p := ⟨gb101, _, none⟩) NB113_101.out _).trans (((cell_far (p := ⟨gb101, _, none⟩) NB113_101.out _).trans (hHeld.2))))⟩ (fun hHeld => ?_)
                        clear hK K
                        refine done_ (by kernel_rfl) ?_
                        try go_wp2
                        (try rw [Exit.noGoto_ret])
                        refine bodyPost_ret (results_list (rs := [.tmp 4, .tmp 5, .cell 6 31]) rfl (by simp) (.tmp (.tmp (.cell gb101 31 #[.int .i64 t111, .int .i64 t112] (0, 0) _ rfl (by (with_reducible repeat (first | refine blk_drewN ?_ _ | refine blk_drew ?_ | refine blk_alloc ?_ _)); refine blk_put (cs := #[.int .i64 t111, .int .i64 x102001_2]) ?_ 1 _ rfl; (with_reducible repeat (first | refine blk_drewN ?_ _ | refine blk_drew ?_ | refine blk_alloc ?_ _)); refine blk_put (cs := #[.int .i64 x102000_2, .int .i64 x102001_2]) ?_ 0 _ rfl; (with_reducible repeat (first | refine blk_drewN ?_ _ | refine blk_drew ?_ | refine blk_alloc ?_ _)); exact BK101.out) Try.underlying31 rfl (by kernel_rfl) .nil)))) rfl ?_
                        exact ⟨by first | rfl | (simp [errW_none, errW_some] <;> rfl) | (simp [*, errW_none, errW_some] <;> rfl), by repeat (first | (with_reducible first | exact HB.out | apply below_alloc | apply pw_below_drewN | apply below_drew1 | refine below_set ?_ GE101.out | refine below_set ?_ GE113.out) | exact HB.out)⟩
                    · rw [if_neg c22] at H
                      have c22b0 : decide (192 ≤ (wrap64 (rd l0 x9_2))) = false := decide_eq_false c22
                      clear c22
                      by_cases c48 : (wrap64 (rd l0 x9_2)) > 63
                      · rw [if_pos c48] at H
                        have c48b0 : decide (63 < (wrap64 (rd l0 x9_2))) = true := decide_eq_true c48
                        clear c48
                        simp only [Option.some.injEq, Prod.mk.injEq] at H
                        obtain ⟨rfl, rfl, rfl, rfl⟩ := H
                        have p102 : 0 ≤ (x9_2 : Int) := of_decide_eq_true (by first | (with_reducible assumption) | assumption)
                        have q102 : x9_2 < (l0.length : Int) := of_decide_eq_true (by first | (with_reducible assumption) | assumption)
                        obtain ⟨ad102, e102, hx102_0⟩ := Kd.at_int HR0.out x9_2 p102 q102
                        cases e102
                        replace hx102_0 := (HB.out.cell (World.block_lt_of_cell? w _ hx102_0)).trans hx102_0
                        replace p102 := eq_true p102
                        replace q102 := eq_true q102
                        have hcz49_0 : wr.cell? ⟨gb101, 0, none⟩ = some (.int .i64 x102000_2) := (blk_cell BK101.out 0).trans rfl
                        have hcz49_1 : wr.cell? ⟨gb101, 1, none⟩ = some (.int .i64 x102001_2) := (blk_cell BK101.out 1).trans rfl
                        have hfz49_0 := blk_frozen BK101.out 0
                        have hfz49_1 := blk_frozen BK101.out 1
                        go_wp2
                        (try rw [Exit.noGoto_ret])
                        refine bodyPost_ret (results_list (rs := [.tmp 4, .tmp 5, .cell 6 31]) rfl (by simp) (.tmp (.tmp (.cell gb101 31 #[.int .i64 4, .int .i64 x9_2] (0, 0) _ rfl (by (with_reducible repeat (first | refine blk_drewN ?_ _ | refine blk_drew ?_ | refine blk_alloc ?_ _)); refine blk_put (cs := #[.int .i64 4, .int .i64 x102001_2]) ?_ 1 _ rfl; (with_reducible repeat (first | refine blk_drewN ?_ _ | refine blk_drew ?_ | refine blk_alloc ?_ _)); refine blk_put (cs := #[.int .i64 x102000_2, .int .i64 x102001_2]) ?_ 0 _ rfl; (with_reducible repeat (first | refine blk_drewN ?_ _ | refine blk_drew ?_ | refine blk_alloc ?_ _)); exact BK101.out) Try.underlying31 rfl (by kernel_rfl) .nil)))) rfl ?_
                        exact ⟨by first | rfl | (simp [errW_none, errW_some] <;> rfl) | (simp [*, errW_none, errW_some] <;> rfl), by repeat (first | (with_reducible first | exact HB.out | apply below_alloc | apply pw_below_drewN | apply below_drew1 | refine below_set ?_ GE101.out) | exact HB.out)⟩
                      · rw [if_neg c48] at H
                        have c48b0 : decide (63 < (wrap64 (rd l0 x9_2))) = false := decide_eq_false c48
                        clear c48
                        replace H := Option.bind_eq_some_iff.mp H
                        obtain ⟨⟨t114, t117, t118, t119⟩, A500, H⟩ := H
                        replace H : (if t118 = 0 then (if x7_2.length + t114.length < 140737488355328 then ((some (x7_2 ++ t114 : List Int)).bind fun y121 => (if (y121.length : Int) > 254 then (some ((⟨#[]⟩ : ByteArray), 0, 3, a1)) else (wire_Read.l0 k2 l0 a1 y121 x8_2 t117 x10_2))) else (none)) else (some ((⟨#[]⟩ : ByteArray), 0, t118, t119))) = some (r1, r2, r3, r4) := H
                        have A50 := Aside0.mk A500
                        clear A500
                        by_cases c51 : t118 = 0
                        · rw [if_pos c51] at H
                          have c51b0 : (t118 == 0) = true := beq_iff_eq.mpr c51
                          have c51b1 : (t118 != 0) = false := bne_eq_false_iff_eq.mpr c51
                          clear c51
                          by_cases c52 : x7_2.length + t114.length < 140737488355328
                          · rw [if_pos c52] at H
                            have LMc52 := Aside0.mk c52
                            clear c52
                            obtain ⟨y121, hy121⟩ : ∃ y_ : List Int, y_ = (x7_2 ++ t114) := ⟨_, rfl⟩
                            replace H : (if (y121.length : Int) > 254 then (some ((⟨#[]⟩ : ByteArray), 0, 3, a1)) else (wire_Read.l0 k2 l0 a1 y121 x8_2 t117 x10_2)) = some (r1, r2, r3, r4) := by first | (rw [hy121]; with_reducible exact H) | (have H2_ := (Option.bind_some _ _).symm.trans H; rw [hy121]; with_reducible exact H2_) | (have H2_ := (Option.bind_some _ _).symm.trans H; with_reducible exact H2_) | with_reducible exact H | (rw [hy121]; exact H) | exact H
                            have Ny121 := Aside0.mk hy121
                            clear hy121
                            by_cases c53 : (y121.length : Int) > 254
                            · rw [if_pos c53] at H
                              have c53b0 : decide (254 < (y121.length : Int)) = true := decide_eq_true c53
                              have c53b1 : decide (254 < y121.length) = true := decide_eq_true (by omega)
                              clear c53
                              simp only [Option.some.injEq, Prod.mk.injEq] at H
                              obtain ⟨rfl, rfl, rfl, rfl⟩ := H
                              have p102 : 0 ≤ (x9_2 : Int) := of_decide_eq_true (by first | (with_reducible assumption) | assumption)
                              have q102 : x9_2 < (l0.length : Int) := of_decide_eq_true (by first | (with_reducible assumption) | assumption)
                              obtain ⟨ad102, e102, hx102_0⟩ := Kd.at_int HR0.out x9_2 p102 q102
                              cases e102
                              replace hx102_0 := (HB.out.cell (World.block_lt_of_cell? w _ hx102_0)).trans hx102_0
                              replace p102 := eq_true p102
                              replace q102 := eq_true q102
                              go_wp2_with (first | ((with_reducible refine gate_callee (f := 39) rfl ?_); refine goesL_ (some 46) rfl rfl Try.func39 (by kernel_rfl) rfl #[.slice (some ad102) l0.length c0, .int .i64 x9_2, .int .i64 (wrap64 ((wrap64 (rd l0 x9_2)) + 1))] rfl (by (try simp only [List.map_toArray, List.map_cons, List.map_nil]); first | done | rfl | (simp only [List.length_drop, List.length_take]; rfl)) ?_; (with_reducible refine (octet_Bytes.calls k2 _ _ l0 x9_2 (wrap64 ((wrap64 (rd l0 x9_2)) + 1)) t114 t117 t118 t119 _ ?side1 ?side2 A50.out).mono ?_); (case side1 => repeat (first | exact (Kd.C_below HR0.out HB.out) | (with_reducible refine Kd.C_alloc ?_ _) | (with_reducible refine Kd.C_drewN ?_ _) | (with_reducible refine Kd.C_drew ?_))); (case side2 => exact HC0.out); rintro e w54 ⟨v115, rfl, ho0, hb⟩; refine ⟨_, rfl, ?_⟩; have n0_ := Aside0.mk (Kd.R_elder' (by (with_reducible repeat (first | apply Kd.R_alloc | apply Kd.R_drewN | apply Kd.R_drew)); exact HO_7.out) (Kd.R_base ho0) hb); have n1_ := Aside0.mk (Kd.R_lower (Kd.R_new' ho0 (Kd.R_lt (by (with_reducible repeat (first | apply Kd.R_alloc | apply Kd.R_drewN | apply Kd.R_drew)); exact HO_7.out))) (below_size (by repeat (first | (with_reducible first | exact HB.out | apply below_alloc | apply pw_below_drewN | apply below_drew1 | refine below_set ?_ GE101.out) | exact HB.out)))); have n2_ := Aside0.mk (blk_below (g := gb101) (o := .cells #[.int .i64 x102000_2, .int .i64 x102001_2] 31 (0, 0)) (by (with_reducible repeat (first | refine blk_drewN ?_ _ | refine blk_drew ?_ | refine blk_alloc ?_ _)); exact BK101.out) hb); have n3_ := Aside0.mk (below_step (by repeat (first | (with_reducible first | exact HB.out | apply below_alloc | apply pw_below_drewN | apply below_drew1 | refine below_set ?_ GE101.out) | exact HB.out)) hb); clear HO_7; clear BK101; clear HB; have HO_7 := n0_; have HO116 := n1_; have BK101 := n2_; have HB := n3_; clear n0_ n1_ n2_ n3_; (try clear hb); (try clear hb2); (try clear hk); (try clear hi); (try clear ho0)) | ((with_reducible refine gate_dst (N := 17) rfl ?_); (try (refine gate_guard (by rfl) ?_; dsimp only)); refine box_event ?hg (N := 17) ?hd (cs := #[.int .i64 0, .int .i64 0]) (t := 31) ?hr ?_; (case hd => rfl); (case hg => rfl); (case hr => first | (go_simp; done) | (go_simp; rfl)); intro gb120 hg w55 hbox hb; have n0_ := Aside0.mk (Kd.R_below (by (with_reducible repeat (first | apply Kd.R_alloc | apply Kd.R_drewN | apply Kd.R_drew)); exact HO_7.out) hb); have n1_ := Aside0.mk (Kd.R_below (by (with_reducible repeat (first | apply Kd.R_alloc | apply Kd.R_drewN | apply Kd.R_drew)); exact HO116.out) hb); have n2_ := Aside0.mk (blk_below (g := gb101) (o := .cells #[.int .i64 x102000_2, .int .i64 x102001_2] 31 (0, 0)) (by (with_reducible repeat (first | refine blk_drewN ?_ _ | refine blk_drew ?_ | refine blk_alloc ?_ _)); exact BK101.out) hb); have n3_ := Aside0.mk (below_step (by repeat (first | (with_reducible first | exact HB.out | apply below_alloc | apply pw_below_drewN | apply below_drew1 | refine below_set ?_ GE101.out) | exact HB.out)) hb); have n4_ := Aside0.mk (hbox); have n5_ := Aside0.mk ((by rw [hg]; exact (below_size (by repeat (first | (with_reducible first | exact HB.out | apply below_alloc | apply pw_below_drewN | apply below_drew1 | refine below_set ?_ GE101.out) | exact HB.out))) : w.heap.size ≤ gb120)); have n6_ := Aside0.mk ((by rw [hg]; exact (below_size (by repeat (first | (with_reducible first | exact HB.out | apply below_alloc | apply pw_below_drewN | apply below_drew1 | refine below_set ?_ GE101.out) | exact HB.out))) : w.heap.size ≤ gb120)); have n7_ := Aside0.mk ((by rw [hg]; exact Nat.ne_of_lt (blk_lt (g := gb101) (o := .cells #[.int .i64 x102000_2, .int .i64 x102001_2] 31 (0, 0)) (by (with_reducible repeat (first | refine blk_drewN ?_ _ | refine blk_drew ?_ | refine blk_alloc ?_ _)); exact BK101.out)) : gb101 ≠ gb120)); have n8_ := Aside0.mk ((by rw [hg]; exact Nat.ne_of_gt (blk_lt (g := gb101) (o := .cells #[.int .i64 x102000_2, .int .i64 x102001_2] 31 (0, 0)) (by (with_reducible repeat (first | refine blk_drewN ?_ _ | refine blk_drew ?_ | refine blk_alloc ?_ _)); exact BK101.out)) : gb120 ≠ gb101)); clear HO_7; clear HO116; clear BK101; clear HB; have HO_7 := n0_; have HO116 := n1_; have BK101 := n2_; have HB := n3_; have BK120 := n4_; have GW120 := n5_; have GE120 := n6_; have NB101_120 := n7_; have NB120_101 := n8_; clear n0_ n1_ n2_ n3_ n4_ n5_ n6_ n7_ n8_; clear hb hbox hg; have hnb56 := NB120_101.out; have hnc56 := NB101_120.out; have hcz57_0 : w55.cell? ⟨gb120, 0, none⟩ = some (.int .i64 0) := (blk_cell BK120.out 0).trans rfl; have hcz57_1 : w55.cell? ⟨gb120, 1, none⟩ = some (.int .i64 0) := (blk_cell BK120.out 1).trans rfl; have hfz57_0 := blk_frozen BK120.out 0; have hfz57_1 := blk_frozen BK120.out 1; obtain ⟨Ao59, co59, eo59⟩ := Kd.R_slice HO116.out; subst eo59) | ((with_reducible refine gate_builtin (b := .append) (xs := #[.tmp 54, .tmp 55]) rfl ?_); (try (refine gate_guard (by rfl) ?_; dsimp only)); at_builtin; refine Kd.R_append_rows (Kd.int .u8) (w0 := w) w.heap.size rfl (.tmp 54) (.tmp 55) 22 5 (.int .u8 0) 1 rfl Try.underlying22 info5 rfl (by decide) (by omega) u7 x7_2 t114 _ _ _ (fun k_ => some k_ ≠ (.slice Ao59 t114.length co59 : Value).ownBlock) (fun _ => False) rfl rfl ?aO ?aR (fun _ _ h => h) (fun _ h => h.elim) ?aF ?aB ?aS ?aL ?_; (case aR => refine (Kd.R_reads' (e := 5) (base := w.heap.size) (ok := fun k_ => (True ∧ some k_ ≠ (u7 : Value).ownBlock)) (n := t114.length) (c := co59) ?_).2.2; exact (by (with_reducible repeat (first | apply Kd.R_alloc | apply Kd.R_drewN | apply Kd.R_drew)); exact (Kd.R_mono (Kd.R_far (p := ⟨gb120, 1, none⟩) (Kd.R_far (p := ⟨gb120, 0, none⟩) (Kd.R_types HO116.out BK120.out (by decide)) (fun _ hk => hk.2) (.int .i64 t118)) (fun _ hk => hk.2) (.int .i64 t119)) (fun _ h_ => h_.1)))); (case aB => exact (by repeat (first | (with_reducible first | exact HB.out | apply below_alloc | apply pw_below_drewN | apply below_drew1 | refine below_set ?_ GE101.out | refine below_set ?_ GE120.out) | exact HB.out))); (case aF => exact (fun k_ hk => Kd.fresh' (Kd.R_lt (by (with_reducible repeat (first | apply Kd.R_alloc | apply Kd.R_drewN | apply Kd.R_drew)); exact (Kd.R_mono (Kd.R_far (p := ⟨gb120, 1, none⟩) (Kd.R_far (p := ⟨gb120, 0, none⟩) (Kd.R_types HO116.out BK120.out (by decide)) (fun _ hk => hk.2) (.int .i64 t118)) (fun _ hk => hk.2) (.int .i64 t119)) (fun _ h_ => h_.1)))) k_ hk)); (case aO => exact (by (with_reducible repeat (first | apply Kd.R_alloc | apply Kd.R_drewN | apply Kd.R_drew)); exact Kd.R_mono (Kd.R_far (p := ⟨gb120, 1, none⟩) (Kd.R_far (p := ⟨gb120, 0, none⟩) (Kd.R_types HO_7.out BK120.out (by decide)) (fun _ hk => hk.2) (.int .i64 t118)) (fun _ hk => hk.2) (.int .i64 t119)) (fun _ hk => hk.1.2))); (case aS => exact (below_size (by repeat (first | (with_reducible first | exact HB.out | apply below_alloc | apply pw_below_drewN | apply below_drew1 | refine below_set ?_ GE101.out | refine below_set ?_ GE120.out) | exact HB.out)))); (case aL => have := LMc52.out; omega); intro v122 w58 ho hb hg hat; rw [← Ny121.out] at ho; have n0_ := Aside0.mk (blk_grown (g := gb101) (o := .cells #[.int .i64 x102000_2, .int .i64 x102001_2] 31 (0, 0)) (by (with_reducible repeat (first | refine blk_drewN ?_ _ | refine blk_drew ?_ | refine blk_alloc ?_ _)); refine blk_far ?_ NB101_120.out _; (with_reducible repeat (first | refine blk_drewN ?_ _ | refine blk_drew ?_ | refine blk_alloc ?_ _)); refine blk_far ?_ NB101_120.out _; (with_reducible repeat (first | refine blk_drewN ?_ _ | refine blk_drew ?_ | refine blk_alloc ?_ _)); exact BK101.out) hg (Kd.R_ne HO_7.out BK101.out (by decide))); have n1_ := Aside0.mk (Kd.R_after (ok := (fun _ => True)) (by (with_reducible repeat (first | apply Kd.R_alloc | apply Kd.R_drewN | apply Kd.R_drew)); exact Kd.R_mono (Kd.R_far (p := ⟨gb120, 1, none⟩) (Kd.R_far (p := ⟨gb120, 0, none⟩) (Kd.R_types HO116.out BK120.out (by decide)) (fun _ hk => hk.2) (.int .i64 t118)) (fun _ hk => hk.2) (.int .i64 t119)) (fun _ hk => ⟨trivial, hk.1.2⟩)) hg hat); have n2_ := Aside0.mk (blk_grown (g := gb120) (o := .cells #[.int .i64 t118, .int .i64 t119] 31 (0, 0)) (by (with_reducible repeat (first | refine blk_drewN ?_ _ | refine blk_drew ?_ | refine blk_alloc ?_ _)); refine blk_put (cs := #[.int .i64 t118, .int .i64 0]) ?_ 1 _ rfl; (with_reducible repeat (first | refine blk_drewN ?_ _ | refine blk_drew ?_ | refine blk_alloc ?_ _)); refine blk_put (cs := #[.int .i64 0, .int .i64 0]) ?_ 0 _ rfl; (with_reducible repeat (first | refine blk_drewN ?_ _ | refine blk_drew ?_ | refine blk_alloc ?_ _)); exact BK120.out) hg (Kd.R_ne HO_7.out BK120.out (by decide))); have n3_ := Aside0.mk (hb); have n4_ := Aside0.mk (ho); clear BK101; clear HO116; clear BK120; clear HB; clear HO_7; have BK101 := n0_; have HO116 := n1_; have BK120 := n2_; have HB := n3_; have HO123 := n4_; clear n0_ n1_ n2_ n3_ n4_; clear ho hb hg hat; obtain ⟨Ao60, co60, eo60⟩ := Kd.R_slice HO123.out; subst eo60; have hcz61_0 : w58.cell? ⟨gb101, 0, none⟩ = some (.int .i64 x102000_2) := (blk_cell BK101.out 0).trans rfl; have hcz61_1 : w58.cell? ⟨gb101, 1, none⟩ = some (.int .i64 x102001_2) := (blk_cell BK101.out 1).trans rfl; have hfz61_0 := blk_frozen BK101.out 0; have hfz61_1 := blk_frozen BK101.out 1))
                              (try rw [Exit.noGoto_ret])
                              refine bodyPost_ret (results_list (rs := [.tmp 4, .tmp 5, .cell 6 31]) rfl (by simp) (.tmp (.tmp (.cell gb101 31 #[.int .i64 3, .int .i64 a1] (0, 0) _ rfl (by (with_reducible repeat (first | refine blk_drewN ?_ _ | refine blk_drew ?_ | refine blk_alloc ?_ _)); refine blk_put (cs := #[.int .i64 3, .int .i64 x102001_2]) ?_ 1 _ rfl; (with_reducible repeat (first | refine blk_drewN ?_ _ | refine blk_drew ?_ | refine blk_alloc ?_ _)); refine blk_put (cs := #[.int .i64 x102000_2, .int .i64 x102001_2]) ?_ 0 _ rfl; (with_reducible repeat (first | refine blk_drewN ?_ _ | refine blk_drew ?_ | refine blk_alloc ?_ _)); exact BK101.out) Try.underlying31 rfl (by kernel_rfl) .nil)))) rfl ?_
                              exact ⟨by first | rfl | (simp [errW_none, errW_some] <;> rfl) | (simp [*, errW_none, errW_some] <;> rfl), by repeat (first | (with_reducible first | exact HB.out | apply below_alloc | apply pw_below_drewN | apply below_drew1 | refine below_set ?_ GE101.out | refine below_set ?_ GE120.out) | exact HB.out)⟩
                            · rw [if_neg c53] at H
                              have c53b0 : decide (254 < (y121.length : Int)) = false := decide_eq_false c53
                              have c53b1 : decide (254 < y121.length) = false := decide_eq_false (by omega)
                              clear c53
                              have H' := Aside0.mk H
                              clear H
                              have p102 : 0 ≤ (x9_2 : Int) := of_decide_eq_true (by first | (with_reducible assumption) | assumption)
                              have q102 : x9_2 < (l0.length : Int) := of_decide_eq_true (by first | (with_reducible assumption) | assumption)
                              obtain ⟨ad102, e102, hx102_0⟩ := Kd.at_int HR0.out x9_2 p102 q102
                              cases e102
                              replace hx102_0 := (HB.out.cell (World.block_lt_of_cell? w _ hx102_0)).trans hx102_0
                              replace p102 := eq_true p102
                              replace q102 := eq_true q102
                              go_wp2_with (first | ((with_reducible refine gate_callee (f := 39) rfl ?_); refine goesL_ (some 46) rfl rfl Try.func39 (by kernel_rfl) rfl #[.slice (some ad102) l0.length c0, .int .i64 x9_2, .int .i64 (wrap64 ((wrap64 (rd l0 x9_2)) + 1))] rfl (by (try simp only [List.map_toArray, List.map_cons, List.map_nil]); first | done | rfl | (simp only [List.length_drop, List.length_take]; rfl)) ?_; (with_reducible refine (octet_Bytes.calls k2 _ _ l0 x9_2 (wrap64 ((wrap64 (rd l0 x9_2)) + 1)) t114 t117 t118 t119 _ ?side1 ?side2 A50.out).mono ?_); (case side1 => repeat (first | exact (Kd.C_below HR0.out HB.out) | (with_reducible refine Kd.C_alloc ?_ _) | (with_reducible refine Kd.C_drewN ?_ _) | (with_reducible refine Kd.C_drew ?_))); (case side2 => exact HC0.out); rintro e w62 ⟨v115, rfl, ho0, hb⟩; refine ⟨_, rfl, ?_⟩; have n0_ := Aside0.mk (Kd.R_elder' (by (with_reducible repeat (first | apply Kd.R_alloc | apply Kd.R_drewN | apply Kd.R_drew)); exact HO_7.out) (Kd.R_base ho0) hb); have n1_ := Aside0.mk (Kd.R_lower (Kd.R_new' ho0 (Kd.R_lt (by (with_reducible repeat (first | apply Kd.R_alloc | apply Kd.R_drewN | apply Kd.R_drew)); exact HO_7.out))) (below_size (by repeat (first | (with_reducible first | exact HB.out | apply below_alloc | apply pw_below_drewN | apply below_drew1 | refine below_set ?_ GE101.out) | exact HB.out)))); have n2_ := Aside0.mk (blk_below (g := gb101) (o := .cells #[.int .i64 x102000_2, .int .i64 x102001_2] 31 (0, 0)) (by (with_reducible repeat (first | refine blk_drewN ?_ _ | refine blk_drew ?_ | refine blk_alloc ?_ _)); exact BK101.out) hb); have n3_ := Aside0.mk (below_step (by repeat (first | (with_reducible first | exact HB.out | apply below_alloc | apply pw_below_drewN | apply below_drew1 | refine below_set ?_ GE101.out) | exact HB.out)) hb); clear HO_7; clear BK101; clear HB; have HO_7 := n0_; have HO116 := n1_; have BK101 := n2_; have HB := n3_; clear n0_ n1_ n2_ n3_; (try clear hb); (try clear hb2); (try clear hk); (try clear hi); (try clear ho0)) | ((with_reducible refine gate_dst (N := 17) rfl ?_); (try (refine gate_guard (by rfl) ?_; dsimp only)); refine box_event ?hg (N := 17) ?hd (cs := #[.int .i64 0, .int .i64 0]) (t := 31) ?hr ?_; (case hd => rfl); (case hg => rfl); (case hr => first | (go_simp; done) | (go_simp; rfl)); intro gb120 hg w63 hbox hb; have n0_ := Aside0.mk (Kd.R_below (by (with_reducible repeat (first | apply Kd.R_alloc | apply Kd.R_drewN | apply Kd.R_drew)); exact HO_7.out) hb); have n1_ := Aside0.mk (Kd.R_below (by (with_reducible repeat (first | apply Kd.R_alloc | apply Kd.R_drewN | apply Kd.R_drew)); exact HO116.out) hb); have n2_ := Aside0.mk (blk_below (g := gb101) (o := .cells #[.int .i64 x102000_2, .int .i64 x102001_2] 31 (0, 0)) (by (with_reducible repeat (first | refine blk_drewN ?_ _ | refine blk_drew ?_ | refine blk_alloc ?_ _)); exact BK101.out) hb); have n3_ := Aside0.mk (below_step (by repeat (first | (with_reducible first | exact HB.out | apply below_alloc | apply pw_below_drewN | apply below_drew1 | refine below_set ?_ GE101.out) | exact HB.out)) hb); have n4_ := Aside0.mk (hbox); have n5_ := Aside0.mk ((by rw [hg]; exact (below_size (by repeat (first | (with_reducible first | exact HB.out | apply below_alloc | apply pw_below_drewN | apply below_drew1 | refine below_set ?_ GE101.out) | exact HB.out))) : w.heap.size ≤ gb120)); have n6_ := Aside0.mk ((by rw [hg]; exact (below_size (by repeat (first | (with_reducible first | exact HB.out | apply below_alloc | apply pw_below_drewN | apply below_drew1 | refine below_set ?_ GE101.out) | exact HB.out))) : w.heap.size ≤ gb120)); have n7_ := Aside0.mk ((by rw [hg]; exact Nat.ne_of_lt (blk_lt (g := gb101) (o := .cells #[.int .i64 x102000_2, .int .i64 x102001_2] 31 (0, 0)) (by (with_reducible repeat (first | refine blk_drewN ?_ _ | refine blk_drew ?_ | refine blk_alloc ?_ _)); exact BK101.out)) : gb101 ≠ gb120)); have n8_ := Aside0.mk ((by rw [hg]; exact Nat.ne_of_gt (blk_lt (g := gb101) (o := .cells #[.int .i64 x102000_2, .int .i64 x102001_2] 31 (0, 0)) (by (with_reducible repeat (first | refine blk_drewN ?_ _ | refine blk_drew ?_ | refine blk_alloc ?_ _)); exact BK101.out)) : gb120 ≠ gb101)); clear HO_7; clear HO116; clear BK101; clear HB; have HO_7 := n0_; have HO116 := n1_; have BK101 := n2_; have HB := n3_; have BK120 := n4_; have GW120 := n5_; have GE120 := n6_; have NB101_120 := n7_; have NB120_101 := n8_; clear n0_ n1_ n2_ n3_ n4_ n5_ n6_ n7_ n8_; clear hb hbox hg; have hnb64 := NB120_101.out; have hnc64 := NB101_120.out; have hcz65_0 : w63.cell? ⟨gb120, 0, none⟩ = some (.int .i64 0) := (blk_cell BK120.out 0).trans rfl; have hcz65_1 : w63.cell? ⟨gb120, 1, none⟩ = some (.int .i64 0) := (blk_cell BK120.out 1).trans rfl; have hfz65_0 := blk_frozen BK120.out 0; have hfz65_1 := blk_frozen BK120.out 1; obtain ⟨Ao67, co67, eo67⟩ := Kd.R_slice HO116.out; subst eo67) | ((with_reducible refine gate_builtin (b := .append) (xs := #[.tmp 54, .tmp 55]) rfl ?_); (try (refine gate_guard (by rfl) ?_; dsimp only)); at_builtin; refine Kd.R_append_rows (Kd.int .u8) (w0 := w) w.heap.size rfl (.tmp 54) (.tmp 55) 22 5 (.int .u8 0) 1 rfl Try.underlying22 info5 rfl (by decide) (by omega) u7 x7_2 t114 _ _ _ (fun k_ => some k_ ≠ (.slice Ao67 t114.length co67 : Value).ownBlock) (fun _ => False) rfl rfl ?aO ?aR (fun _ _ h => h) (fun _ h => h.elim) ?aF ?aB ?aS ?aL ?_; (case aR => refine (Kd.R_reads' (e := 5) (base := w.heap.size) (ok := fun k_ => (True ∧ some k_ ≠ (u7 : Value).ownBlock)) (n := t114.length) (c := co67) ?_).2.2; exact (by (with_reducible repeat (first | apply Kd.R_alloc | apply Kd.R_drewN | apply Kd.R_drew)); exact (Kd.R_mono (Kd.R_far (p := ⟨gb120, 1, none⟩) (Kd.R_far (p := ⟨gb120, 0, none⟩) (Kd.R_types HO116.out BK120.out (by decide)) (fun _ hk => hk.2) (.int .i64 t118)) (fun _ hk => hk.2) (.int .i64 t119)) (fun _ h_ => h_.1)))); (case aB => exact (by repeat (first | (with_reducible first | exact HB.out | apply below_alloc | apply pw_below_drewN | apply below_drew1 | refine below_set ?_ GE101.out | refine below_set ?_ GE120.out) | exact HB.out))); (case aF => exact (fun k_ hk => Kd.fresh' (Kd.R_lt (by (with_reducible repeat (first | apply Kd.R_alloc | apply Kd.R_drewN | apply Kd.R_drew)); exact (Kd.R_mono (Kd.R_far (p := ⟨gb120, 1, none⟩) (Kd.R_far (p := ⟨gb120, 0, none⟩) (Kd.R_types HO116.out BK120.out (by decide)) (fun _ hk => hk.2) (.int .i64 t118)) (fun _ hk => hk.2) (.int .i64 t119)) (fun _ h_ => h_.1)))) k_ hk)); (case aO => exact (by (with_reducible repeat (first | apply Kd.R_alloc | apply Kd.R_drewN | apply Kd.R_drew)); exact Kd.R_mono (Kd.R_far (p := ⟨gb120, 1, none⟩) (Kd.R_far (p := ⟨gb120, 0, none⟩) (Kd.R_types HO_7.out BK120.out (by decide)) (fun _ hk => hk.2) (.int .i64 t118)) (fun _ hk => hk.2) (.int .i64 t119)) (fun _ hk => hk.1.2))); (case aS => exact (below_size (by repeat (first | (with_reducible first | exact HB.out | apply below_alloc | apply pw_below_drewN | apply below_drew1 | refine below_set ?_ GE101.out | refine below_set ?_ GE120.out) | exact HB.out)))); (case aL => have := LMc52.out; omega); intro v122 w66 ho hb hg hat; rw [← Ny121.out] at ho; have n0_ := Aside0.mk (blk_grown (g := gb101) (o := .cells #[.int .i64 x102000_2, .int .i64 x102001_2] 31 (0, 0)) (by (with_reducible repeat (first | refine blk_drewN ?_ _ | refine blk_drew ?_ | refine blk_alloc ?_ _)); refine blk_far ?_ NB101_120.out _; (with_reducible repeat (first | refine blk_drewN ?_ _ | refine blk_drew ?_ | refine blk_alloc ?_ _)); refine blk_far ?_ NB101_120.out _; (with_reducible repeat (first | refine blk_drewN ?_ _ | refine blk_drew ?_ | refine blk_alloc ?_ _)); exact BK101.out) hg (Kd.R_ne HO_7.out BK101.out (by decide))); have n1_ := Aside0.mk (Kd.R_after (ok := (fun _ => True)) (by (with_reducible repeat (first | apply Kd.R_alloc | apply Kd.R_drewN | apply Kd.R_drew)); exact Kd.R_mono (Kd.R_far (p := ⟨gb120, 1, none⟩) (Kd.R_far (p := ⟨gb120, 0, none⟩) (Kd.R_types HO116.out BK120.out (by decide)) (fun _ hk => hk.2) (.int .i64 t118)) (fun _ hk => hk.2) (.int .i64 t119)) (fun _ hk => ⟨trivial, hk.1.2⟩)) hg hat); have n2_ := Aside0.mk (blk_grown (g := gb120) (o := .cells #[.int .i64 t118, .int .i64 t119] 31 (0, 0)) (by (with_reducible repeat (first | refine blk_drewN ?_ _ | refine blk_drew ?_ | refine blk_alloc ?_ _)); refine blk_put (cs := #[.int .i64 t118, .int .i64 0]) ?_ 1 _ rfl; (with_reducible repeat (first | refine blk_drewN ?_ _ | refine blk_drew ?_ | refine blk_alloc ?_ _)); refine blk_put (cs := #[.int .i64 0, .int .i64 0]) ?_ 0 _ rfl; (with_reducible repeat (first | refine blk_drewN ?_ _ | refine blk_drew ?_ | refine blk_alloc ?_ _)); exact BK120.out) hg (Kd.R_ne HO_7.out BK120.out (by decide))); have n3_ := Aside0.mk (hb); have n4_ := Aside0.mk (ho); clear BK101; clear HO116; clear BK120; clear HB; clear HO_7; have BK101 := n0_; have HO116 := n1_; have BK120 := n2_; have HB := n3_; have HO123 := n4_; clear n0_ n1_ n2_ n3_ n4_; clear ho hb hg hat; obtain ⟨Ao68, co68, eo68⟩ := Kd.R_slice HO123.out; subst eo68))
                              go_roundg k2
                              case measure => have := HJ2.out; have := HK2.out; omega
                              case rel => exact ⟨(y121), (x8_2), (t117), (x10_2), (x102000_2), (x102001_2), (by first | rfl | (simp; done) | (simp [*]; done)), (by first | rfl | (simp; done) | (simp [*]; done)), (by first | rfl | (simp; done) | (simp [*]; done)), H', ⟨by have := HJ2.out; have := HK2.out; omega⟩, ⟨by (with_reducible repeat (first | apply Kd.R_alloc | apply Kd.R_drewN | apply Kd.R_drew)); exact Kd.R_mono HO123.out (fun _ hk => trivial)⟩, ⟨by (with_reducible repeat (first | refine blk_drewN ?_ _ | refine blk_drew ?_ | refine blk_alloc ?_ _)); exact BK101.out⟩, ⟨by repeat (first | (with_reducible first | exact HB.out | apply below_alloc | apply pw_below_drewN | apply below_drew1 | refine below_set ?_ GE101.out | refine below_set ?_ GE120.out) | exact HB.out)⟩⟩
                          · rw [if_neg c52] at H
                            exact absurd H (by simp)
                        · rw [if_neg c51] at H
                          have c51b0 : (t118 == 0) = false := beq_eq_false_iff_ne.mpr c51
                          have c51b1 : (t118 != 0) = true := bne_iff_ne.mpr c51
                          simp only [Option.some.injEq, Prod.mk.injEq] at H
                          obtain ⟨rfl, rfl, rfl, rfl⟩ := H
                          have p102 : 0 ≤ (x9_2 : Int) := of_decide_eq_true (by first | (with_reducible assumption) | assumption)
                          have q102 : x9_2 < (l0.length : Int) := of_decide_eq_true (by first | (with_reducible assumption) | assumption)
                          obtain ⟨ad102, e102, hx102_0⟩ := Kd.at_int HR0.out x9_2 p102 q102
                          cases e102
                          replace hx102_0 := (HB.out.cell (World.block_lt_of_cell? w _ hx102_0)).trans hx102_0
                          replace p102 := eq_true p102
                          replace q102 := eq_true q102
                          try go_wp2_with (first | ((with_reducible refine gate_callee (f := 39) rfl ?_); refine goesL_ (some 46) rfl rfl Try.func39 (by kernel_rfl) rfl #[.slice (some ad102) l0.length c0, .int .i64 x9_2, .int .i64 (wrap64 ((wrap64 (rd l0 x9_2)) + 1))] rfl (by (try simp only [List.map_toArray, List.map_cons, List.map_nil]); first | done | rfl | (simp only [List.length_drop, List.length_take]; rfl)) ?_; (with_reducible refine (octet_Bytes.calls k2 _ _ l0 x9_2 (wrap64 ((wrap64 (rd l0 x9_2)) + 1)) t114 t117 t118 t119 _ ?side1 ?side2 A50.out).mono ?_); (case side1 => repeat (first | exact (Kd.C_below HR0.out HB.out) | (with_reducible refine Kd.C_alloc ?_ _) | (with_reducible refine Kd.C_drewN ?_ _) | (with_reducible refine Kd.C_drew ?_))); (case side2 => exact HC0.out); rintro e w69 ⟨v115, rfl, ho0, hb⟩; refine ⟨_, rfl, ?_⟩; have n0_ := Aside0.mk (Kd.R_elder' (by (with_reducible repeat (first | apply Kd.R_alloc | apply Kd.R_drewN | apply Kd.R_drew)); exact HO_7.out) (Kd.R_base ho0) hb); have n1_ := Aside0.mk (Kd.R_lower (Kd.R_new' ho0 (Kd.R_lt (by (with_reducible repeat (first | apply Kd.R_alloc | apply Kd.R_drewN | apply Kd.R_drew)); exact HO_7.out))) (below_size (by repeat (first | (with_reducible first | exact HB.out | apply below_alloc | apply pw_below_drewN | apply below_drew1 | refine below_set ?_ GE101.out) | exact HB.out)))); have n2_ := Aside0.mk (blk_below (g := gb101) (o := .cells #[.int .i64 x102000_2, .int .i64 x102001_2] 31 (0, 0)) (by (with_reducible repeat (first | refine blk_drewN ?_ _ | refine blk_drew ?_ | refine blk_alloc ?_ _)); exact BK101.out) hb); have n3_ := Aside0.mk (below_step (by repeat (first | (with_reducible first | exact HB.out | apply below_alloc | apply pw_below_drewN | apply below_drew1 | refine below_set ?_ GE101.out) | exact HB.out)) hb); clear HO_7; clear BK101; clear HB; have HO_7 := n0_; have HO116 := n1_; have BK101 := n2_; have HB := n3_; clear n0_ n1_ n2_ n3_; (try clear hb); (try clear hb2); (try clear hk); (try clear hi); (try clear ho0)) | ((with_reducible refine gate_dst (N := 17) rfl ?_); (try (refine gate_guard (by rfl) ?_; dsimp only)); refine box_event ?hg (N := 17) ?hd (cs := #[.int .i64 0, .int .i64 0]) (t := 31) ?hr ?_; (case hd => rfl); (case hg => rfl); (case hr => first | (go_simp; done) | (go_simp; rfl)); intro gb120 hg w70 hbox hb; have n0_ := Aside0.mk (Kd.R_below (by (with_reducible repeat (first | apply Kd.R_alloc | apply Kd.R_drewN | apply Kd.R_drew)); exact HO_7.out) hb); have n1_ := Aside0.mk (Kd.R_below (by (with_reducible repeat (first | apply Kd.R_alloc | apply Kd.R_drewN | apply Kd.R_drew)); exact HO116.out) hb); have n2_ := Aside0.mk (blk_below (g := gb101) (o := .cells #[.int .i64 x102000_2, .int .i64 x102001_2] 31 (0, 0)) (by (with_reducible repeat (first | refine blk_drewN ?_ _ | refine blk_drew ?_ | refine blk_alloc ?_ _)); exact BK101.out) hb); have n3_ := Aside0.mk (below_step (by repeat (first | (with_reducible first | exact HB.out | apply below_alloc | apply pw_below_drewN | apply below_drew1 | refine below_set ?_ GE101.out) | exact HB.out)) hb); have n4_ := Aside0.mk (hbox); have n5_ := Aside0.mk ((by rw [hg]; exact (below_size (by repeat (first | (with_reducible first | exact HB.out | apply below_alloc | apply pw_below_drewN | apply below_drew1 | refine below_set ?_ GE101.out) | exact HB.out))) : w.heap.size ≤ gb120)); have n6_ := Aside0.mk ((by rw [hg]; exact (below_size (by repeat (first | (with_reducible first | exact HB.out | apply below_alloc | apply pw_below_drewN | apply below_drew1 | refine below_set ?_ GE101.out) | exact HB.out))) : w.heap.size ≤ gb120)); have n7_ := Aside0.mk ((by rw [hg]; exact Nat.ne_of_lt (blk_lt (g := gb101) (o := .cells #[.int .i64 x102000_2, .int .i64 x102001_2] 31 (0, 0)) (by (with_reducible repeat (first | refine blk_drewN ?_ _ | refine blk_drew ?_ | refine blk_alloc ?_ _)); exact BK101.out)) : gb101 ≠ gb120)); have n8_ := Aside0.mk ((by rw [hg]; exact Nat.ne_of_gt (blk_lt (g := gb101) (o := .cells #[.int .i64 x102000_2, .int .i64 x102001_2] 31 (0, 0)) (by (with_reducible repeat (first | refine blk_drewN ?_ _ | refine blk_drew ?_ | refine blk_alloc ?_ _)); exact BK101.out)) : gb120 ≠ gb101)); clear HO_7; clear HO116; clear BK101; clear HB; have HO_7 := n0_; have HO116 := n1_; have BK101 := n2_; have HB := n3_; have BK120 := n4_; have GW120 := n5_; have GE120 := n6_; have NB101_120 := n7_; have NB120_101 := n8_; clear n0_ n1_ n2_ n3_ n4_ n5_ n6_ n7_ n8_; clear hb hbox hg; have hnb71 := NB120_101.out; have hnc71 := NB101_120.out; have hcz72_0 : w70.cell? ⟨gb120, 0, none⟩ = some (.int .i64 0) := (blk_cell BK120.out 0).trans rfl; have hcz72_1 : w70.cell? ⟨gb120, 1, none⟩ = some (.int .i64 0) := (blk_cell BK120.out 1).trans rfl; have hfz72_0 := blk_frozen BK120.out 0; have hfz72_1 := blk_frozen BK120.out 1))
                          have n0_ : Aside0 (Kd.R (Kd.int .u8) 5 ((w70.setCell ⟨gb120, 0, none⟩ (.int .i64 t118)).setCell ⟨gb120, 1, none⟩ (.int .i64 t119)) w.heap.size (fun k_ => some k_ ≠ (v115 : Value).ownBlock) u7 x7_2) := ⟨by (with_reducible repeat (first | apply Kd.R_alloc | apply Kd.R_drewN | apply Kd.R_drew)); exact Kd.R_mono (Kd.R_far (p := ⟨gb120, 1, none⟩) (Kd.R_far (p := ⟨gb120, 0, none⟩) (Kd.R_types HO_7.out BK120.out (by decide)) (fun _ hk => hk.2) (.int .i64 t118)) (fun _ hk => hk.2) (.int .i64 t119)) (fun _ hk => hk.1.2)⟩
                          have n1_ : Aside0 (Kd.R (Kd.int .u8) 5 ((w70.setCell ⟨gb120, 0, none⟩ (.int .i64 t118)).setCell ⟨gb120, 1, none⟩ (.int .i64 t119)) w.heap.size (fun k_ => some k_ ≠ (u7 : Value).ownBlock) v115 t114) := ⟨by (with_reducible repeat (first | apply Kd.R_alloc | apply Kd.R_drewN | apply Kd.R_drew)); exact Kd.R_mono (Kd.R_far (p := ⟨gb120, 1, none⟩) (Kd.R_far (p := ⟨gb120, 0, none⟩) (Kd.R_types HO116.out BK120.out (by decide)) (fun _ hk => hk.2) (.int .i64 t118)) (fun _ hk => hk.2) (.int .i64 t119)) (fun _ hk => hk.1.2)⟩
                          have n2_ : Aside0 (((w70.setCell ⟨gb120, 0, none⟩ (.int .i64 t118)).setCell ⟨gb120, 1, none⟩ (.int .i64 t119)).heap[gb101]? = some (.cells #[.int .i64 x102000_2, .int .i64 x102001_2] 31 (0, 0))) := ⟨by (with_reducible repeat (first | refine blk_drewN ?_ _ | refine blk_drew ?_ | refine blk_alloc ?_ _)); refine blk_far ?_ NB101_120.out _; (with_reducible repeat (first | refine blk_drewN ?_ _ | refine blk_drew ?_ | refine blk_alloc ?_ _)); refine blk_far ?_ NB101_120.out _; (with_reducible repeat (first | refine blk_drewN ?_ _ | refine blk_drew ?_ | refine blk_alloc ?_ _)); exact BK101.out⟩
                          have n3_ : Aside0 (((w70.setCell ⟨gb120, 0, none⟩ (.int .i64 t118)).setCell ⟨gb120, 1, none⟩ (.int .i64 t119)).heap[gb120]? = some (.cells #[.int .i64 t118, .int .i64 t119] 31 (0, 0))) := ⟨by (with_reducible repeat (first | refine blk_drewN ?_ _ | refine blk_drew ?_ | refine blk_alloc ?_ _)); refine blk_put (cs := #[.int .i64 t118, .int .i64 0]) ?_ 1 _ rfl; (with_reducible repeat (first | refine blk_drewN ?_ _ | refine blk_drew ?_ | refine blk_alloc ?_ _)); refine blk_put (cs := #[.int .i64 0, .int .i64 0]) ?_ 0 _ rfl; (with_reducible repeat (first | refine blk_drewN ?_ _ | refine blk_drew ?_ | refine blk_alloc ?_ _)); exact BK120.out⟩
                          have n4_ : Aside0 (Below w.heap.size w ((w70.setCell ⟨gb120, 0, none⟩ (.int .i64 t118)).setCell ⟨gb120, 1, none⟩ (.int .i64 t119))) := ⟨by repeat (first | (with_reducible first | exact HB.out | apply below_alloc | apply pw_below_drewN | apply below_drew1 | refine below_set ?_ GE101.out | refine below_set ?_ GE120.out) | exact HB.out)⟩
                          (try clear HO_7)
                          (try clear HO116)
                          (try clear BK101)
                          (try clear BK120)
                          (try clear HB)
                          generalize ((w70.setCell ⟨gb120, 0, none⟩ (.int .i64 t118)).setCell ⟨gb120, 1, none⟩ (.int .i64 t119)) = w73 at n0_ n1_ n2_ n3_ n4_ ⊢
                          have HO_7 := n0_
                          have HO116 := n1_
                          have BK101 := n2_
                          have BK120 := n3_
                          have HB := n4_
                          clear n0_ n1_ n2_ n3_ n4_
                          have n0_ := Aside0.mk (Kd.R_drew HO_7.out)
                          have n1_ := Aside0.mk (Kd.R_drew HO116.out)
                          have n2_ := Aside0.mk (blk_drew BK101.out)
                          have n3_ := Aside0.mk (blk_drew BK120.out)
                          have n4_ := Aside0.mk (below_drew1 HB.out)
                          clear HO_7
                          clear HO116
                          clear BK101
                          clear BK120
                          clear HB
                          have HO_7 := n0_
                          have HO116 := n1_
                          have BK101 := n2_
                          have BK120 := n3_
                          have HB := n4_
                          clear n0_ n1_ n2_ n3_ n4_
                          refine start_ (n := 4) (S := fun w' => w'.cell? ⟨gb120, 0, none⟩ = some (.int .i64 t118) ∧ w'.cell? ⟨gb120, 1, none⟩ = some (.int .i64 t119)) (ds := []) #[false, false, false, false] (by kernel_rfl) rfl rfl ⟨(blk_cell BK120.out 0).trans rfl, (blk_cell BK120.out 1).trans rfl⟩ (fun hHeld => ?_)
                          generalize w73.drew = w74 at HO_7 HO116 BK101 BK120 HB hHeld ⊢
                          refine pure_ (i := 1) (N := some 4) (v := ?_) (a' := ?_) #[false, true, false, false] rfl rfl (by kernel_rfl) (fun _ _ _ h => h) (Or.inl ⟨by rfl, ?_⟩) ?_ ?_
                          rotate_left
                          · intro w'
                            go_simp
                            with_reducible rfl
                          rotate_left
                          · simp only [Act.put, List.setIfInBounds_toArray, List.set_cons_zero, List.set_cons_succ, i64_w, i32_w]
                            rfl
                          refine pure_ (i := 2) (N := some 5) (v := ?_) (a' := ?_) #[false, true, true, false] rfl rfl (by kernel_rfl) (fun _ _ _ h => h) (Or.inl ⟨by rfl, ?_⟩) ?_ ?_
                          rotate_left
                          · intro w'
                            go_simp
                            with_reducible rfl
                          rotate_left
                          · simp only [Act.put, List.setIfInBounds_toArray, List.set_cons_zero, List.set_cons_succ, i64_w, i32_w]
                            rfl
                          refine take_ (i := 0) (N := some 53) (v := ?_) (a' := ?_) #[true, true, true, false] rfl rfl (by kernel_rfl) (fun _ _ _ h => h) (Or.inl ⟨by rfl, ?_⟩) hHeld ?_ ?_
                          rotate_left
                          · rintro w' ⟨s0, s1⟩
                            go_simp
                            with_reducible rfl
                          rotate_left
                          · simp only [Act.put, List.setIfInBounds_toArray, List.set_cons_zero, List.set_cons_succ, i64_w, i32_w]
                            rfl
                          refine one_ (i := 3) (N := none) #[true, true, true, true] rfl rfl (by kernel_rfl) (by decide) (fun K hK => ?_)
                          have hs75 : w74.cell? ⟨gb101, 0, none⟩ = some (.int .i64 x102000_2) := (blk_cell BK101.out 0).trans rfl
                          have hfs75 := blk_frozen BK101.out 0
                          have hns75_1 := NB120_101.out
                          have hms75_1 := NB101_120.out
                          have hs76 : w74.cell? ⟨gb101, 1, none⟩ = some (.int .i64 x102001_2) := (blk_cell BK101.out 1).trans rfl
                          have hfs76 := blk_frozen BK101.out 1
                          have hns76_1 := NB120_101.out
                          have hms76_1 := NB101_120.out
                          refine skip_ (w1 := ?_) (by rfl) rfl ?_ ?_
                          rotate_left
                          · go_simp
                            rfl
                          refine hK.out _ _ ⟨((cell_far (p := ⟨gb101, _, none⟩) NB120_101.out _).trans (((cell_far (p := ⟨gb101, _, none⟩) NB120_101.out _).trans (hHeld.1)))), ((cell_far (p := ⟨gb101, _, none⟩) NB120_101.out _).trans (((cell_far (p := ⟨gb101, _, none⟩) NB120_101.out _).trans (hHeld.2))))⟩ (fun hHeld => ?_)
                          clear hK K
                          refine done_ (by kernel_rfl) ?_
                          try go_wp2
                          (try rw [Exit.noGoto_ret])
                          refine bodyPost_ret (results_list (rs := [.tmp 4, .tmp 5, .cell 6 31]) rfl (by simp) (.tmp (.tmp (.cell gb101 31 #[.int .i64 t118, .int .i64 t119] (0, 0) _ rfl (by (with_reducible repeat (first | refine blk_drewN ?_ _ | refine blk_drew ?_ | refine blk_alloc ?_ _)); refine blk_put (cs := #[.int .i64 t118, .int .i64 x102001_2]) ?_ 1 _ rfl; (with_reducible repeat (first | refine blk_drewN ?_ _ | refine blk_drew ?_ | refine blk_alloc ?_ _)); refine blk_put (cs := #[.int .i64 x102000_2, .int .i64 x102001_2]) ?_ 0 _ rfl; (with_reducible repeat (first | refine blk_drewN ?_ _ | refine blk_drew ?_ | refine blk_alloc ?_ _)); exact BK101.out) Try.underlying31 rfl (by kernel_rfl) .nil)))) rfl ?_
                          exact ⟨by first | rfl | (simp [errW_none, errW_some] <;> rfl) | (simp [*, errW_none, errW_some] <;> rfl), by repeat (first | (with_reducible first | exact HB.out | apply below_alloc | apply pw_below_drewN | apply below_drew1 | refine below_set ?_ GE101.out | refine below_set ?_ GE120.out) | exact HB.out)⟩
                · rw [if_neg c11] at H
                  exact absurd H (by simp)
              · rw [if_neg c10] at H
                exact absurd H (by simp)

end Go.Proofs.Ytjjbhpbmfpodeaa.X
end
section
namespace Go.Proofs.Ytjjbhpbmfpodeaa.X
open Go.RowKit Go.Proofs.YtjjbhpbmfpodeaaW.PrintWords Go.Proofs.YtjjbhpbmfpodeaaW.PrintLast Go.Proofs.YtjjbhpbmfpodeaaW.PrintMore
attribute [local go_sem] max2_int min2_int max_two min_two max_three min_three max_four min_four   -- for this text's walks alone
set_option linter.unusedVariables false
set_option linter.unusedSimpArgs false

/-! ### ostiarylaw05_awake: function 47 -/
def ostiarylaw05_awake.f (k : Nat)  : Option (Bool) := (wire_Read.f k (([1, 97, 0, 1, 98, 192, 0] : List Int)) 3).bind fun bt104 => (if bt104.1.toList = ([1, 98, 1, 97, 0] : List UInt8) then (if bt104.2.1 = 7 then (some (bt104.2.2.1 == 0)) else (some false)) else (some false))
theorem ostiarylaw05_awake.mono : ∀ k, LeO (ostiarylaw05_awake.f k ) (ostiarylaw05_awake.f (k + 1) ) := by
  intro  k
  unfold ostiarylaw05_awake.f
  repeat' first
      | (with_reducible exact wire_Read.mono _ _ _)
      | (with_reducible exact LeO.refl _)
      | (with_reducible exact LeO.none _)
      | (with_reducible refine LeO.ite ?_ ?_)
      | (with_reducible refine LeO.bind ?_ (fun _ => ?_))
      | exact wire_Read.mono _ _ _
      | exact LeO.none _
      | refine LeO.ite ?_ ?_
      | refine LeO.bind ?_ (fun _ => ?_)
set_option maxHeartbeats 8000000 in
set_option maxRecDepth 100000 in
theorem ostiarylaw05_awake.calls (k : Nat)  (r : Bool) (w : World) (h : ostiarylaw05_awake.f k  = some r) :
    Calls Try.prog 47 #[] w fun e w' => e = .returned (.bool r) ∧ Below w.heap.size w w' := by
  have hu31 := Try.underlying31
  have HB := Aside0.mk (Below.refl w.heap.size w)
  have H : ((wire_Read.f k (([1, 97, 0, 1, 98, 192, 0] : List Int)) 3).bind fun bt104 => (if bt104.1.toList = ([1, 98, 1, 97, 0] : List UInt8) then (if bt104.2.1 = 7 then (some (bt104.2.2.1 == 0)) else (some false)) else (some false))) = some r := h
  clear h
  obtain ⟨y101, hy101⟩ : ∃ y_ : List Int, y_ = (([1, 97, 0, 1, 98, 192, 0] : List Int)) := ⟨_, rfl⟩
  replace H : ((wire_Read.f k y101 3).bind fun bt104 => (if bt104.1.toList = ([1, 98, 1, 97, 0] : List UInt8) then (if bt104.2.1 = 7 then (some (bt104.2.2.1 == 0)) else (some false)) else (some false))) = some r := by first | (rw [hy101]; with_reducible exact H) | (have H2_ := (Option.bind_some _ _).symm.trans H; rw [hy101]; with_reducible exact H2_) | (have H2_ := (Option.bind_some _ _).symm.trans H; with_reducible exact H2_) | with_reducible exact H | (rw [hy101]; exact H) | exact H
  have Ny101 := Aside0.mk hy101
  clear hy101
  replace H := Option.bind_eq_some_iff.mp H
  obtain ⟨⟨t104, t105, t106, t107⟩, A10, H⟩ := H
  replace H : (if t104.toList = ([1, 98, 1, 97, 0] : List UInt8) then (if t105 = 7 then (some (t106 == 0)) else (some false)) else (some false)) = some r := H
  have A1 := Aside0.mk A10
  clear A10
  by_cases c2 : t104.toList = ([1, 98, 1, 97, 0] : List UInt8)
  · rw [if_pos c2] at H
    have c2b0 : (t104.toList == ([1, 98, 1, 97, 0] : List UInt8)) = true := beq_iff_eq.mpr c2
    have c2b1 : (t104.toList != ([1, 98, 1, 97, 0] : List UInt8)) = false := bne_eq_false_iff_eq.mpr c2
    clear c2
    by_cases c3 : t105 = 7
    · rw [if_pos c3] at H
      have c3b0 : (t105 == 7) = true := beq_iff_eq.mpr c3
      have c3b1 : (t105 != 7) = false := bne_eq_false_iff_eq.mpr c3
      clear c3
      obtain rfl := Option.some.inj H
      go_enter Try.func47, Try.ntmps47
      go_wp2_with (first | ((with_reducible refine gate_dst (N := 5) rfl ?_); refine Kd.R_lit (Kd.int .u8) _ 5 ?hg (N := 5) ?hd (xs := ([1, 97, 0, 1, 98, 192, 0] : List Int)) (inner := [.int .u8 1, .int .u8 97, .int .u8 0, .int .u8 1, .int .u8 98, .int .u8 192, .int .u8 0]) (ok := fun _ => True) (okp := fun _ => True) ?hr ?hp (fun _ hk => hk) trivial (Below.refl _ _) (Nat.le_refl _) (by simp) ?_; (case hd => rfl); (case hg => rfl); (case hr => first | (go_simp; done) | (go_simp; rfl)); (case hp => exact (Reps.one (show Kd.M (Kd.int .u8) _ _ _ 1 [.int .u8 1] from rfl) (Reps.one (show Kd.M (Kd.int .u8) _ _ _ 97 [.int .u8 97] from rfl) (Reps.one (show Kd.M (Kd.int .u8) _ _ _ 0 [.int .u8 0] from rfl) (Reps.one (show Kd.M (Kd.int .u8) _ _ _ 1 [.int .u8 1] from rfl) (Reps.one (show Kd.M (Kd.int .u8) _ _ _ 98 [.int .u8 98] from rfl) (Reps.one (show Kd.M (Kd.int .u8) _ _ _ 192 [.int .u8 192] from rfl) (Reps.one (show Kd.M (Kd.int .u8) _ _ _ 0 [.int .u8 0] from rfl) (Reps.none _ _))))))))); intro v102 w4 ho5 hb hg_ hnew_; clear hg_ hnew_; (first | rw [← Ny101.out] at ho5 | (simp only [Int.reduceToNat] at ho5; rw [← Ny101.out] at ho5)); have n0_ := Aside0.mk (Kd.R_lower ho5 (below_size (by repeat (first | (with_reducible first | exact HB.out | apply below_alloc | apply pw_below_drewN | apply below_drew1) | exact HB.out)))); have n1_ := Aside0.mk (below_step (by repeat (first | (with_reducible first | exact HB.out | apply below_alloc | apply pw_below_drewN | apply below_drew1) | exact HB.out)) hb); clear HB; have HO103 := n0_; have HB := n1_; clear n0_ n1_; clear hb ho5; obtain ⟨Ao6, co6, eo6⟩ := Kd.R_slice HO103.out; subst eo6) | ((with_reducible refine gate_callee (f := 45) rfl ?_); refine goesL_ (some 6) rfl rfl Try.func45 (by kernel_rfl) rfl #[.slice Ao6 y101.length co6, .int .i64 3] rfl (by (try simp only [List.map_toArray, List.map_cons, List.map_nil]); first | done | rfl | (simp only [List.length_drop, List.length_take]; rfl)) ?_; (with_reducible refine (wire_Read.calls k _ _ y101 3 t104 t105 t106 t107 _ ?side1 ?side2 A1.out).mono ?_); (case side1 => repeat (first | exact (Kd.R_reads' HO103.out).2.2 | (with_reducible refine Kd.C_alloc ?_ _) | (with_reducible refine Kd.C_drewN ?_ _) | (with_reducible refine Kd.C_drew ?_))); (case side2 => exact (Kd.R_reads' HO103.out).2.1); rintro e w7 ⟨rfl, hb⟩; refine ⟨_, rfl, ?_⟩; have n0_ := Aside0.mk (Kd.R_below (by (with_reducible repeat (first | apply Kd.R_alloc | apply Kd.R_drewN | apply Kd.R_drew)); exact HO103.out) hb); have n1_ := Aside0.mk (below_step (by repeat (first | (with_reducible first | exact HB.out | apply below_alloc | apply pw_below_drewN | apply below_drew1) | exact HB.out)) hb); clear HO103; clear HB; have HO103 := n0_; have HB := n1_; clear n0_ n1_; (try clear hb); (try clear hb2); (try clear hk); (try clear hi)) | ((with_reducible refine gate_dst (N := 3) rfl ?_); refine box_event ?hg (N := 3) ?hd (cs := #[.int .i64 0, .int .i64 0]) (t := 31) ?hr ?_; (case hd => rfl); (case hg => rfl); (case hr => first | (go_simp; done) | (go_simp; rfl)); intro gb108 hg w8 hbox hb; have n0_ := Aside0.mk (Kd.R_below (by (with_reducible repeat (first | apply Kd.R_alloc | apply Kd.R_drewN | apply Kd.R_drew)); exact HO103.out) hb); have n1_ := Aside0.mk (below_step (by repeat (first | (with_reducible first | exact HB.out | apply below_alloc | apply pw_below_drewN | apply below_drew1) | exact HB.out)) hb); have n2_ := Aside0.mk (hbox); have n3_ := Aside0.mk ((by rw [hg]; exact (below_size (by repeat (first | (with_reducible first | exact HB.out | apply below_alloc | apply pw_below_drewN | apply below_drew1) | exact HB.out))) : w.heap.size ≤ gb108)); have n4_ := Aside0.mk ((by rw [hg]; exact (below_size (by repeat (first | (with_reducible first | exact HB.out | apply below_alloc | apply pw_below_drewN | apply below_drew1) | exact HB.out))) : w.heap.size ≤ gb108)); clear HO103; clear HB; have HO103 := n0_; have HB := n1_; have BK108 := n2_; have GW108 := n3_; have GE108 := n4_; clear n0_ n1_ n2_ n3_ n4_; clear hb hbox hg; have hcz9_0 : w8.cell? ⟨gb108, 0, none⟩ = some (.int .i64 0) := (blk_cell BK108.out 0).trans rfl; have hcz9_1 : w8.cell? ⟨gb108, 1, none⟩ = some (.int .i64 0) := (blk_cell BK108.out 1).trans rfl; have hfz9_0 := blk_frozen BK108.out 0; have hfz9_1 := blk_frozen BK108.out 1))
      go_ret
      exact ⟨by first | rfl | (simp [errW_none, errW_some] <;> rfl) | (simp [*, errW_none, errW_some] <;> rfl), by repeat (first | (with_reducible first | exact HB.out | apply below_alloc | apply pw_below_drewN | apply below_drew1 | refine below_set ?_ GE108.out) | exact HB.out)⟩
    · rw [if_neg c3] at H
      have c3b0 : (t105 == 7) = false := beq_eq_false_iff_ne.mpr c3
      have c3b1 : (t105 != 7) = true := bne_iff_ne.mpr c3
      obtain rfl := Option.some.inj H
      go_enter Try.func47, Try.ntmps47
      go_wp2_with (first | ((with_reducible refine gate_dst (N := 5) rfl ?_); refine Kd.R_lit (Kd.int .u8) _ 5 ?hg (N := 5) ?hd (xs := ([1, 97, 0, 1, 98, 192, 0] : List Int)) (inner := [.int .u8 1, .int .u8 97, .int .u8 0, .int .u8 1, .int .u8 98, .int .u8 192, .int .u8 0]) (ok := fun _ => True) (okp := fun _ => True) ?hr ?hp (fun _ hk => hk) trivial (Below.refl _ _) (Nat.le_refl _) (by simp) ?_; (case hd => rfl); (case hg => rfl); (case hr => first | (go_simp; done) | (go_simp; rfl)); (case hp => exact (Reps.one (show Kd.M (Kd.int .u8) _ _ _ 1 [.int .u8 1] from rfl) (Reps.one (show Kd.M (Kd.int .u8) _ _ _ 97 [.int .u8 97] from rfl) (Reps.one (show Kd.M (Kd.int .u8) _ _ _ 0 [.int .u8 0] from rfl) (Reps.one (show Kd.M (Kd.int .u8) _ _ _ 1 [.int .u8 1] from rfl) (Reps.one (show Kd.M (Kd.int .u8) _ _ _ 98 [.int .u8 98] from rfl) (Reps.one (show Kd.M (Kd.int .u8) _ _ _ 192 [.int .u8 192] from rfl) (Reps.one (show Kd.M (Kd.int .u8) _ _ _ 0 [.int .u8 0] from rfl) (Reps.none _ _))))))))); intro v102 w10 ho11 hb hg_ hnew_; clear hg_ hnew_; (first | rw [← Ny101.out] at ho11 | (simp only [Int.reduceToNat] at ho11; rw [← Ny101.out] at ho11)); have n0_ := Aside0.mk (Kd.R_lower ho11 (below_size (by repeat (first | (with_reducible first | exact HB.out | apply below_alloc | apply pw_below_drewN | apply below_drew1) | exact HB.out)))); have n1_ := Aside0.mk (below_step (by repeat (first | (with_reducible first | exact HB.out | apply below_alloc | apply pw_below_drewN | apply below_drew1) | exact HB.out)) hb); clear HB; have HO103 := n0_; have HB := n1_; clear n0_ n1_; clear hb ho11; obtain ⟨Ao12, co12, eo12⟩ := Kd.R_slice HO103.out; subst eo12) | ((with_reducible refine gate_callee (f := 45) rfl ?_); refine goesL_ (some 6) rfl rfl Try.func45 (by kernel_rfl) rfl #[.slice Ao12 y101.length co12, .int .i64 3] rfl (by (try simp only [List.map_toArray, List.map_cons, List.map_nil]); first | done | rfl | (simp only [List.length_drop, List.length_take]; rfl)) ?_; (with_reducible refine (wire_Read.calls k _ _ y101 3 t104 t105 t106 t107 _ ?side1 ?side2 A1.out).mono ?_); (case side1 => repeat (first | exact (Kd.R_reads' HO103.out).2.2 | (with_reducible refine Kd.C_alloc ?_ _) | (with_reducible refine Kd.C_drewN ?_ _) | (with_reducible refine Kd.C_drew ?_))); (case side2 => exact (Kd.R_reads' HO103.out).2.1); rintro e w13 ⟨rfl, hb⟩; refine ⟨_, rfl, ?_⟩; have n0_ := Aside0.mk (Kd.R_below (by (with_reducible repeat (first | apply Kd.R_alloc | apply Kd.R_drewN | apply Kd.R_drew)); exact HO103.out) hb); have n1_ := Aside0.mk (below_step (by repeat (first | (with_reducible first | exact HB.out | apply below_alloc | apply pw_below_drewN | apply below_drew1) | exact HB.out)) hb); clear HO103; clear HB; have HO103 := n0_; have HB := n1_; clear n0_ n1_; (try clear hb); (try clear hb2); (try clear hk); (try clear hi)) | ((with_reducible refine gate_dst (N := 3) rfl ?_); refine box_event ?hg (N := 3) ?hd (cs := #[.int .i64 0, .int .i64 0]) (t := 31) ?hr ?_; (case hd => rfl); (case hg => rfl); (case hr => first | (go_simp; done) | (go_simp; rfl)); intro gb108 hg w14 hbox hb; have n0_ := Aside0.mk (Kd.R_below (by (with_reducible repeat (first | apply Kd.R_alloc | apply Kd.R_drewN | apply Kd.R_drew)); exact HO103.out) hb); have n1_ := Aside0.mk (below_step (by repeat (first | (with_reducible first | exact HB.out | apply below_alloc | apply pw_below_drewN | apply below_drew1) | exact HB.out)) hb); have n2_ := Aside0.mk (hbox); have n3_ := Aside0.mk ((by rw [hg]; exact (below_size (by repeat (first | (with_reducible first | exact HB.out | apply below_alloc | apply pw_below_drewN | apply below_drew1) | exact HB.out))) : w.heap.size ≤ gb108)); have n4_ := Aside0.mk ((by rw [hg]; exact (below_size (by repeat (first | (with_reducible first | exact HB.out | apply below_alloc | apply pw_below_drewN | apply below_drew1) | exact HB.out))) : w.heap.size ≤ gb108)); clear HO103; clear HB; have HO103 := n0_; have HB := n1_; have BK108 := n2_; have GW108 := n3_; have GE108 := n4_; clear n0_ n1_ n2_ n3_ n4_; clear hb hbox hg; have hcz15_0 : w14.cell? ⟨gb108, 0, none⟩ = some (.int .i64 0) := (blk_cell BK108.out 0).trans rfl; have hcz15_1 : w14.cell? ⟨gb108, 1, none⟩ = some (.int .i64 0) := (blk_cell BK108.out 1).trans rfl; have hfz15_0 := blk_frozen BK108.out 0; have hfz15_1 := blk_frozen BK108.out 1))
      go_ret
      exact ⟨by first | rfl | (simp [errW_none, errW_some] <;> rfl) | (simp [*, errW_none, errW_some] <;> rfl), by repeat (first | (with_reducible first | exact HB.out | apply below_alloc | apply pw_below_drewN | apply below_drew1 | refine below_set ?_ GE108.out) | exact HB.out)⟩
  · rw [if_neg c2] at H
    have c2b0 : (t104.toList == ([1, 98, 1, 97, 0] : List UInt8)) = false := beq_eq_false_iff_ne.mpr c2
    have c2b1 : (t104.toList != ([1, 98, 1, 97, 0] : List UInt8)) = true := bne_iff_ne.mpr c2
    obtain rfl := Option.some.inj H
    go_enter Try.func47, Try.ntmps47
    go_wp2_with (first | ((with_reducible refine gate_dst (N := 5) rfl ?_); refine Kd.R_lit (Kd.int .u8) _ 5 ?hg (N := 5) ?hd (xs := ([1, 97, 0, 1, 98, 192, 0] : List Int)) (inner := [.int .u8 1, .int .u8 97, .int .u8 0, .int .u8 1, .int .u8 98, .int .u8 192, .int .u8 0]) (ok := fun _ => True) (okp := fun _ => True) ?hr ?hp (fun _ hk => hk) trivial (Below.refl _ _) (Nat.le_refl _) (by simp) ?_; (case hd => rfl); (case hg => rfl); (case hr => first | (go_simp; done) | (go_simp; rfl)); (case hp => exact (Reps.one (show Kd.M (Kd.int .u8) _ _ _ 1 [.int .u8 1] from rfl) (Reps.one (show Kd.M (Kd.int .u8) _ _ _ 97 [.int .u8 97] from rfl) (Reps.one (show Kd.M (Kd.int .u8) _ _ _ 0 [.int .u8 0] from rfl) (Reps.one (show Kd.M (Kd.int .u8) _ _ _ 1 [.int .u8 1] from rfl) (Reps.one (show Kd.M (Kd.int .u8) _ _ _ 98 [.int .u8 98] from rfl) (Reps.one (show Kd.M (Kd.int .u8) _ _ _ 192 [.int .u8 192] from rfl) (Reps.one (show Kd.M (Kd.int .u8) _ _ _ 0 [.int .u8 0] from rfl) (Reps.none _ _))))))))); intro v102 w16 ho17 hb hg_ hnew_; clear hg_ hnew_; (first | rw [← Ny101.out] at ho17 | (simp only [Int.reduceToNat] at ho17; rw [← Ny101.out] at ho17)); have n0_ := Aside0.mk (Kd.R_lower ho17 (below_size (by repeat (first | (with_reducible first | exact HB.out | apply below_alloc | apply pw_below_drewN | apply below_drew1) | exact HB.out)))); have n1_ := Aside0.mk (below_step (by repeat (first | (with_reducible first | exact HB.out | apply below_alloc | apply pw_below_drewN | apply below_drew1) | exact HB.out)) hb); clear HB; have HO103 := n0_; have HB := n1_; clear n0_ n1_; clear hb ho17; obtain ⟨Ao18, co18, eo18⟩ := Kd.R_slice HO103.out; subst eo18) | ((with_reducible refine gate_callee (f := 45) rfl ?_); refine goesL_ (some 6) rfl rfl Try.func45 (by kernel_rfl) rfl #[.slice Ao18 y101.length co18, .int .i64 3] rfl (by (try simp only [List.map_toArray, List.map_cons, List.map_nil]); first | done | rfl | (simp only [List.length_drop, List.length_take]; rfl)) ?_; (with_reducible refine (wire_Read.calls k _ _ y101 3 t104 t105 t106 t107 _ ?side1 ?side2 A1.out).mono ?_); (case side1 => repeat (first | exact (Kd.R_reads' HO103.out).2.2 | (with_reducible refine Kd.C_alloc ?_ _) | (with_reducible refine Kd.C_drewN ?_ _) | (with_reducible refine Kd.C_drew ?_))); (case side2 => exact (Kd.R_reads' HO103.out).2.1); rintro e w19 ⟨rfl, hb⟩; refine ⟨_, rfl, ?_⟩; have n0_ := Aside0.mk (Kd.R_below (by (with_reducible repeat (first | apply Kd.R_alloc | apply Kd.R_drewN | apply Kd.R_drew)); exact HO103.out) hb); have n1_ := Aside0.mk (below_step (by repeat (first | (with_reducible first | exact HB.out | apply below_alloc | apply pw_below_drewN | apply below_drew1) | exact HB.out)) hb); clear HO103; clear HB; have HO103 := n0_; have HB := n1_; clear n0_ n1_; (try clear hb); (try clear hb2); (try clear hk); (try clear hi)) | ((with_reducible refine gate_dst (N := 3) rfl ?_); refine box_event ?hg (N := 3) ?hd (cs := #[.int .i64 0, .int .i64 0]) (t := 31) ?hr ?_; (case hd => rfl); (case hg => rfl); (case hr => first | (go_simp; done) | (go_simp; rfl)); intro gb108 hg w20 hbox hb; have n0_ := Aside0.mk (Kd.R_below (by (with_reducible repeat (first | apply Kd.R_alloc | apply Kd.R_drewN | apply Kd.R_drew)); exact HO103.out) hb); have n1_ := Aside0.mk (below_step (by repeat (first | (with_reducible first | exact HB.out | apply below_alloc | apply pw_below_drewN | apply below_drew1) | exact HB.out)) hb); have n2_ := Aside0.mk (hbox); have n3_ := Aside0.mk ((by rw [hg]; exact (below_size (by repeat (first | (with_reducible first | exact HB.out | apply below_alloc | apply pw_below_drewN | apply below_drew1) | exact HB.out))) : w.heap.size ≤ gb108)); have n4_ := Aside0.mk ((by rw [hg]; exact (below_size (by repeat (first | (with_reducible first | exact HB.out | apply below_alloc | apply pw_below_drewN | apply below_drew1) | exact HB.out))) : w.heap.size ≤ gb108)); clear HO103; clear HB; have HO103 := n0_; have HB := n1_; have BK108 := n2_; have GW108 := n3_; have GE108 := n4_; clear n0_ n1_ n2_ n3_ n4_; clear hb hbox hg; have hcz21_0 : w20.cell? ⟨gb108, 0, none⟩ = some (.int .i64 0) := (blk_cell BK108.out 0).trans rfl; have hcz21_1 : w20.cell? ⟨gb108, 1, none⟩ = some (.int .i64 0) := (blk_cell BK108.out 1).trans rfl; have hfz21_0 := blk_frozen BK108.out 0; have hfz21_1 := blk_frozen BK108.out 1))
    go_ret
    exact ⟨by first | rfl | (simp [errW_none, errW_some] <;> rfl) | (simp [*, errW_none, errW_some] <;> rfl), by repeat (first | (with_reducible first | exact HB.out | apply below_alloc | apply pw_below_drewN | apply below_drew1 | refine below_set ?_ GE108.out) | exact HB.out)⟩

end Go.Proofs.Ytjjbhpbmfpodeaa.X
end
