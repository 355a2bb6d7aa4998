/- A law of the document, proved of the program: its own texts (plain functions, the walks, plain lemmas, the row), one behind the other. Conditions: those in the theorems. Part 2 of 3. Laid by the session's program wip/merge.py. -/
import Derived.Test.YtjjbhpbmfpodeaaRows
import Derived.Test.YtjjbhpbmfpodeaaProg
import Derived.Below
import Derived.Deep.Draws
import Derived.Deep.AppendLies
import Derived.Maps.AppendAt
import Derived.OwnWalk
import Derived.Laws.BytesArg
import Derived.Laws.MakeOwn
import Derived.Laws.OwnMore
import Derived.Deep.OwnRows
import Derived.Tactics
import Derived.Lib.ConvBytes
import Derived.Laws.Slices
import Derived.WalkKit
import Derived.KernelRfl
import Derived.RowKit3
import Derived.Deep.LoopGhost
import Derived.Deep.QuietTactic
import Derived.BigQuiet
import Derived.WideLaws
import Derived.Deep.DeepCutAuto
import Derived.Deep.CutBlock
import Derived.Deep.RegionHeld3
import Derived.Laws.Rows
import Derived.Lib.AppendStr
import Derived.ArgAppend
import Derived.Laws.IdiomCopy
import Derived.OrdersHeld
import Derived.Laws.BitsLemmas
import Derived.RowKit
import Derived.Test.YtjjbhpbmfpodeaaWWords
import Derived.Test.YtjjbhpbmfpodeaaWLast
import Derived.Test.YtjjbhpbmfpodeaaWTab
import Derived.Test.YtjjbhpbmfpodeaaWFour
import Derived.Test.YtjjbhpbmfpodeaaWQPut
import Derived.Test.YtjjbhpbmfpodeaaWApart
import Derived.Test.YtjjbhpbmfpodeaaWArr
import Derived.Test.YtjjbhpbmfpodeaaWZeros
import Derived.Test.YtjjbhpbmfpodeaaWFoot
import Derived.Test.YtjjbhpbmfpodeaaWKept
import Derived.Test.YtjjbhpbmfpodeaaWShare
import Derived.Test.YtjjbhpbmfpodeaaWN
import Derived.Test.YtjjbhpbmfpodeaaWFootNe
import Derived.Test.YtjjbhpbmfpodeaaWAt
import Derived.Test.YtjjbhpbmfpodeaaWEqStruct
import Derived.Test.YtjjbhpbmfpodeaaWRepsOne
import Derived.Test.YtjjbhpbmfpodeaaWInv
import Derived.Test.YtjjbhpbmfpodeaaWInvWords
import Derived.Test.YtjjbhpbmfpodeaaWGuard
import Derived.Test.YtjjbhpbmfpodeaaWNEv
import Derived.Test.YtjjbhpbmfpodeaaWMore
import Derived.RangeFuncWrites
import Derived.RangeFuncLeaves
import Derived.RangeFuncBox
import Derived.Deep.WholeRow
import Derived.Deep.RegionHeld
import Derived.Laws.CopyRow
import Derived.OwnWalkIn
import Derived.TacticsInMore
import Derived.LoopNIn
import Derived.LoopIn
import Derived.Sort.QuietIn
import Derived.Maps.OwnIn
import Derived.Maps.Views
import Derived.Sort.MapsRangeIn
import Derived.StringKeys
import Derived.Recover
import Derived.Laws.Panics
import Derived.OpenShut
import Derived.Shelf.Abstract
import Derived.Shelf.RegionOpen
import Derived.Lib.AtoiErrMem
import Derived.WalkMore
import Derived.Lib.SlBytesConst
import Derived.ProofKit
import Derived.JoinedOf
import Derived.ShutString
import Derived.ChangeOld
import Derived.SizedLaws
import Derived.Test.YtjjbhpbmfpodeaaWSized
import Derived.Test.YtjjbhpbmfpodeaaJWireKnownA
section
namespace Go.Proofs.Ytjjbhpbmfpodeaa.X
open Go.RowKit Go.Maps Go.Proofs.Ytjjbhpbmfpodeaa.PB Go.Proofs.YtjjbhpbmfpodeaaW.PrintWords Go.Proofs.YtjjbhpbmfpodeaaW.PrintLast Go.Proofs.YtjjbhpbmfpodeaaW.PrintMore
set_option linter.unusedVariables false
set_option linter.unusedSimpArgs false
attribute [local go_sem] Oper.semAt_some

/-- A packer in block bp, with its tails in block bm. -/
structure Pk (w : World) (bp bm nn : Nat) (S : PS) : Prop where
  cell : w.heap[bp]? = some (.cells #[.map (some bm), .int .i64 S.E] 57 (0, 0))
  map : MapV strK w bm nn (fun s => (lookL S.L s).map (Value.int .i64)) S.L.length
  tails : Tails S.L
  end_ : 0 ≤ S.E ∧ S.E ≤ 70000

theorem grownBy_of_below {w w' : World} (h : Below w.heap.size w w') : w.grownBy w' none := ⟨h.os, h.tape, h.output, h.size, fun k hk _ => h.block k hk⟩
theorem below_of_grownBy {w w' : World} (h : w.grownBy w' none) : Below w.heap.size w w' := ⟨h.os, h.tape, h.output, h.size, fun k hk => h.block k hk (by simp)⟩
theorem grown_refl (w : World) (row : Option Nat) : w.grownBy w row := ⟨rfl, rfl, rfl, Nat.le_refl _, fun _ _ _ => rfl⟩

theorem Pk.ne {w : World} {bp bm nn : Nat} {S : PS} (h : Pk w bp bm nn S) : bp ≠ bm := by
  obtain ⟨D, ⟨es, cl, hb, _⟩, _⟩ := h.map
  rintro rfl
  have := h.cell
  rw [hb] at this
  cases this
theorem Pk.grown {w w' : World} {bp bm nn : Nat} {S : PS} (h : Pk w bp bm nn S) {row : Option Nat} (hg : w.grownBy w' row) (h1 : some bp ≠ row) (h2 : some bm ≠ row) : Pk w' bp bm nn S :=
  ⟨blk_grown h.cell hg h1, h.map.grown hg h2, h.tails, h.end_⟩
theorem Pk.below {w w' : World} {bp bm nn : Nat} {S : PS} (h : Pk w bp bm nn S) (hb : Below w.heap.size w w') : Pk w' bp bm nn S := h.grown (grownBy_of_below hb) (by simp) (by simp)

theorem zero3 (w : World) : (zeroValue 3).run Try.prog w = .ok (.int .i64 0) w := by
  have h : (Try.prog.info? 3).map (fun i => (i.zero, i.size, i.bytes)) = some (some (.int .i64 0), 1, 8) := by kernel_rfl
  obtain ⟨i, hi, hz, _⟩ := info_parts h
  simp [zeroValue, typeInfo, hi, hz, go_sem]

set_option maxHeartbeats 4000000 in
set_option maxRecDepth 100000 in
theorem wire_New.in_ (n : Nat) (hn : 1 ≤ n) (w : World) :
    CallsIn Fence.wide n Try.prog 49 #[] w fun e w' => e = .returned (.pointer (some ⟨w.heap.size + 1, 0, none⟩)) ∧ Pk w' (w.heap.size + 1) w.heap.size 0 ⟨[], 0⟩ ∧ Below w.heap.size w w' := by
  refine callsIn_of_wp Try.func49 rfl trivial ?_ rfl
  simp only [Try.ntmps49, List.size_toArray, List.length_cons, List.length_nil, Nat.reduceAdd, Nat.reduceSub, Array.replicate_succ, Array.replicate_zero, List.push_toArray, List.append_toArray, List.nil_append, List.cons_append]
  have hmm := @run_makeMap Try.prog
  gi_wp2
  go_ret
  refine ⟨rfl, ⟨?_, (MapV.made w).alloc _, Tails.nil, by simp⟩, below_alloc (below_alloc (Below.refl _ _) _) _⟩
  have := World.alloc_heap_new (w.alloc (Obj.map #[] 0)) (Obj.cells #[Value.map (some w.heap.size), Value.int IntKind.i64 0] 57)
  rwa [World.size_alloc] at this

set_option maxHeartbeats 4000000 in
set_option maxRecDepth 100000 in
theorem Packer_Known.in_ (n : Nat) (hn : 1 ≤ n) (w : World) {bp bm nn : Nat} {S : PS} (h : Pk w bp bm nn S) :
    CallsIn Fence.wide n Try.prog 52 #[.pointer (some ⟨bp, 0, none⟩)] w fun e w' => e = .returned (.int .i64 S.L.length) ∧ w' = w := by
  refine callsIn_of_wp Try.func52 rfl trivial ?_ rfl
  simp only [Try.ntmps52, List.size_toArray, List.length_cons, List.length_nil, Nat.reduceAdd, Nat.reduceSub, Array.replicate_succ, Array.replicate_zero, List.push_toArray, List.append_toArray, List.nil_append, List.cons_append]
  have h0 : w.cell? ⟨bp, 0, none⟩ = some (.map (some bm)) := (blk_cell h.cell 0).trans rfl
  have hl := h.map.len Try.underlying55
  gi_wp2
  go_ret
  exact ⟨rfl, rfl⟩

theorem upd_map {w : World} {b n sz : Nat} {fr : List (ByteArray × Int)} {T : ByteArray} {k : Int} (h : MapV strK w b n (fun t => if t = T then some (Value.int .i64 k) else (lookL fr t).map (Value.int .i64)) (if ((lookL fr T).map (Value.int .i64)).isSome then sz else sz + 1)) (hn : lookL fr T = none) :
    MapV strK w b n (fun s => (lookL (fr ++ [(T, k)]) s).map (Value.int .i64)) (sz + 1) := by
  rw [hn] at h
  refine MapV.congr h fun s => ?_
  rw [lookL_append, lookL_cons, lookL_nil]
  by_cases e : s = T
  · subst e; rw [if_pos rfl, hn, if_pos rfl]; rfl
  · rw [if_neg e, if_neg (fun h => e h.symm)]; cases lookL fr s <;> rfl

theorem pk_step {L : List (ByteArray × Int)} {a : Int} {k : Nat} {p r : List Int} {c : Int} {fr : List (ByteArray × Int)} (hn : lookL L (strOfNums (c :: r ++ [0])) = none) (hk : 0 < k) :
    pk L a k p (c :: r) fr = pk L a (k - 1) (p ++ c :: r.take c.toNat) (r.drop c.toNat) (if a + p.length < 16384 then fr ++ [(strOfNums (c :: r ++ [0]), a + p.length)] else fr) := by
  cases k with
  | zero => omega
  | succ k => rw [pk, hn]; rfl

theorem C_lit1 (W : World) (x : Int) : Kd.C (Kd.int .u8) (W.alloc (.cells #[.int .u8 x] 5)) (some ⟨W.heap.size, 0, none⟩) 1 [x] :=
  C_of_blk (xs := [x]) (blk_new W _) (by simp)
theorem or_ptr {k : Int} (h0 : 0 ≤ k) (h1 : k < 16384) : Go.bits .or .i64 49152 k = 49152 + k := by
  obtain ⟨m, rfl⟩ := Int.eq_ofNat_of_zero_le h0
  unfold Go.bits
  simp
  show IntKind.i64.wrap ((49152 ||| (m % 2 ^ 64) : Nat) : Int) = _
  rw [Nat.mod_eq_of_lt (by omega)]
  have h := Nat.two_pow_add_eq_or_of_lt (i := 14) (show m < 2 ^ 14 by omega) 3
  rw [show (49152 : Nat) = 2 ^ 14 * 3 from rfl, ← h, IntWalk.i64_in _ (by omega)]
  omega
theorem put_ptr {k : Int} (h0 : 0 ≤ k) (h1 : k < 16384) : octet_Put16.f (49152 + k) = some (ptr k, 0) := by
  rw [put16_ok (by omega) (by omega)]
  unfold bs16 ptr
  congr 3
  · omega
  · congr 1; omega
def isIn (s : ByteArray) (l : List ByteArray) : Bool := l.any (fun u => decide (u = s))
theorem isIn_iff {s : ByteArray} {l : List ByteArray} : isIn s l = true ↔ s ∈ l := by
  unfold isIn
  rw [List.any_eq_true]
  constructor
  · rintro ⟨u, hu, h⟩; have := of_decide_eq_true h; subst this; exact hu
  · intro h; exact ⟨s, h, by simp⟩
theorem nodup_len : ∀ {l m : List ByteArray}, l.Nodup → l ⊆ m → l.length ≤ m.length
  | [], m, _, _ => Nat.zero_le _
  | a :: l, m, h, hs => by
    obtain ⟨h1, h2⟩ := List.nodup_cons.1 h
    have h3 : l ⊆ m.filter (fun u => decide (u ≠ a)) := fun u hu => List.mem_filter.2 ⟨hs (List.mem_cons_of_mem _ hu), by
      have : u ≠ a := fun e => h1 (e ▸ hu)
      simp [this]⟩
    have h4 := nodup_len h2 h3
    have h5 : (m.filter (fun u => decide (u ≠ a))).length < m.length := List.length_filter_lt_length_iff_exists.2 ⟨a, hs (by simp), by simp⟩
    simp only [List.length_cons]; omega
theorem HWy_new {L : List (ByteArray × Int)} {p q : List Int} {fr : List (ByteArray × Int)} {x : ByteArray} {c : Value} (h : PkWay L p q fr) (hf : (lookL fr x).map (Value.int .i64) = some c) : lookL L x = none := by
  cases hl : lookL fr x with
  | none => rw [hl] at hf; cases hf
  | some k => exact h.new _ (lookL_mem hl)
theorem upd_done {w : World} {b n sz : Nat} {L fr : List (ByteArray × Int)} {done : List ByteArray} {x : ByteArray} {c : Value}
    (h : MapV strK w b (n + done.length + 1) (fun t => if t = x then some c else (if isIn t done = true then lookL fr t else lookL L t).map (Value.int .i64)) (if ((if isIn x done = true then lookL fr x else lookL L x).map (Value.int .i64)).isSome then sz + done.length else sz + done.length + 1))
    (hx : x ∉ done) (hc : (lookL fr x).map (Value.int .i64) = some c) (hn : lookL L x = none) :
    MapV strK w b (n + (x :: done).length) (fun s => (if isIn s (x :: done) = true then lookL fr s else lookL L s).map (Value.int .i64)) (sz + (x :: done).length) := by
  rw [if_neg (fun h => hx (isIn_iff.1 h)), hn] at h
  refine MapV.congr h fun s => ?_
  by_cases e : s = x
  · subst e; rw [if_pos rfl, if_pos (isIn_iff.2 (by simp)), hc]
  · rw [if_neg e]
    congr 1
    by_cases hd : s ∈ done
    · rw [if_pos (isIn_iff.2 hd), if_pos (isIn_iff.2 (by simp [hd]))]
    · rw [if_neg (fun h => hd (isIn_iff.1 h)), if_neg (fun h => by have := isIn_iff.1 h; simp [hd, e] at this)]
theorem done_step {fr : List (ByteArray × Int)} {left : ByteArray → Bool} {done : List ByteArray} {x : ByteArray} {c : Value} (h : ∀ s, s ∈ done ↔ ((lookL fr s).isSome = true ∧ left s = false)) (hc : (lookL fr x).map (Value.int .i64) = some c) :
    ∀ s, s ∈ x :: done ↔ ((lookL fr s).isSome = true ∧ (left s && !(decide (s = x))) = false) := fun s => by
  rw [List.mem_cons, h s]
  by_cases e : s = x
  · subst e
    cases hl : lookL fr s with
    | none => rw [hl] at hc; cases hc
    | some k => simp
  · simp [e]
theorem done_len {fr : List (ByteArray × Int)} {done : List ByteArray} (hd : done.Nodup) (h : ∀ s ∈ done, (lookL fr s).isSome = true) : done.length ≤ fr.length := by
  have hs : done ⊆ fr.map (·.1) := fun s hs => by
    have := h s hs
    cases hl : lookL fr s with
    | none => rw [hl] at this; cases this
    | some k => exact List.mem_map.2 ⟨_, lookL_mem hl, rfl⟩
  have := nodup_len hd hs
  simpa using this
theorem done_all {fr : List (ByteArray × Int)} {done : List ByteArray} (hf : (fr.map (·.1)).Nodup) (h : ∀ s, (lookL fr s).isSome = true → s ∈ done) : fr.length ≤ done.length := by
  have hs : fr.map (·.1) ⊆ done := fun s hs => by
    refine h s ?_
    cases hl : lookL fr s with
    | none => exact absurd hs (lookL_none.1 hl)
    | some k => rfl
  have := nodup_len hf hs
  simpa using this
theorem pk_end {wr : World} {bp bm nn : Nat} {S : PS} {R : List Int × List (ByteArray × Int)} {fr : List (ByteArray × Int)} {done : List ByteArray} {p q : List Int} {at_ : Int} {wz : World} (hc : wr.heap[bp]? = some (.cells #[.map (some bm), .int .i64 S.E] 57 (0, 0)))
    (hm : MapV strK wr bm (nn + done.length) (fun s => (if isIn s done = true then lookL fr s else lookL S.L s).map (Value.int .i64)) (S.L.length + done.length)) (hd : ∀ s, s ∈ done ↔ (lookL fr s).isSome = true) (hdn : done.Nodup) (hP : Pk wz bp bm nn S)
    (hW : PkWay S.L p q fr) (hR : R.1.length ≤ 256) (hRF : R.2 = fr) (h0 : 0 ≤ at_) (h1 : at_ ≤ 65535) : Pk (wr.setCell ⟨bp, 1, none⟩ (.int .i64 (at_ + R.1.length))) bp bm (nn + 256) ⟨S.L ++ R.2, at_ + R.1.length⟩ := by
  have hlen : done.length = fr.length := Nat.le_antisymm (done_len hdn (fun s hs => (hd s).1 hs)) (done_all hW.tails.once (fun s hs => (hd s).2 hs))
  subst hRF
  refine ⟨blk_put hc 1 _ rfl, ?_, hP.tails.append hW.tails hW.new, by show 0 ≤ at_ + (R.1.length : Int) ∧ at_ + (R.1.length : Int) ≤ 70000; omega⟩
  have h2 := (hm.setCell (a := ⟨bp, 1, none⟩) (fun e => hP.ne e.symm) (.int .i64 (at_ + R.1.length))).mono (n' := nn + 256) (by have := hW.few; have := hW.len; omega)
  rw [List.length_append, ← hlen]
  refine h2.congr fun s => ?_
  congr 1
  rw [lookL_append]
  by_cases hs : s ∈ done
  · rw [if_pos (isIn_iff.2 hs)]
    cases hl : lookL R.2 s with
    | none => have := (hd s).1 hs; rw [hl] at this; cases this
    | some k => rw [hW.new _ (lookL_mem hl)]; rfl
  · rw [if_neg (fun h => hs (isIn_iff.1 h))]
    cases hl : lookL R.2 s with
    | none => cases lookL S.L s <;> rfl
    | some k => exact absurd ((hd s).2 (by rw [hl]; rfl)) hs

set_option maxHeartbeats 8000000 in
set_option maxRecDepth 100000 in
theorem Packer_Name.main (n : Nat) (hn : 3 ≤ n) (w : World) {bp bm nn : Nat} {S : PS} (h : Pk w bp bm nn S) (hnn : nn ≤ 1000000) (at_ : Int) (h0 : 0 ≤ at_) (h1 : at_ ≤ 65535) (h2 : S.E ≤ at_) (s : ByteArray) (hc : name_Check.f s = some 0)
    (a : List Int) (ha : Lab a) (hab : bytesB a = true) (hal : a.length ≤ 254) (hs : s = strOfNums (a ++ [0])) (R : List Int × List (ByteArray × Int)) (hR : pk S.L at_ 256 [] a [] = R) :
    CallsIn Fence.wide n Try.prog 51 #[.pointer (some ⟨bp, 0, none⟩), .int .i64 at_, .string s] w fun e w' => ∃ v w1, e = .returned (.tuple #[v, .int .i64 0]) ∧ Full w' w.heap.size v R.1 ∧ Pk w' bp bm (nn + 256) ⟨S.L ++ R.2, at_ + R.1.length⟩ ∧ w.grownBy w1 (some bm) ∧ w1.grownBy w' (some bp) := by
  refine callsIn_of_wp Try.func51 rfl trivial ?_ rfl
  simp only [Try.ntmps51, List.size_toArray, List.length_cons, List.length_nil, Nat.reduceAdd, Nat.reduceSub, Array.replicate_succ, Array.replicate_zero, List.push_toArray, List.append_toArray, List.nil_append, List.cons_append]
  have hmm := @run_makeMap Try.prog
  have hm1 : ∀ W, (binOp BinOp.eql 55 (.map (some bm)) (.map none)).run Try.prog W = .ok (.bool false) W := fun W => by
    first | rfl | (simp [binOp, go_sem, Try.underlying55] <;> done) | (unfold binOp; simp [go_sem, Try.underlying55]; rfl)
  have c0 : w.cell? ⟨bp, 0, none⟩ = some (.map (some bm)) := (blk_cell h.cell 0).trans rfl
  have HPk := Aside0.mk h
  have d1 : decide (at_ < 0) = false := decide_eq_false (by omega)
  have d2 : decide ((65535 : Int) < at_) = false := decide_eq_false (by omega)
  have d3 : decide (at_ < S.E) = false := decide_eq_false (by omega)
  have HA := Aside0.mk h0
  have HB := Aside0.mk h1
  have HS := Aside0.mk hs
  have HL := Aside0.mk (show PkWay S.L [] a [] from ⟨ha, hab, by simpa using hal, Nat.le_refl _, Tails.nil, by simp, by simp⟩)
  have HR := Aside0.mk hR
  have HN := Aside0.mk hnn
  have HAL := Aside0.mk hal
  clear h hs h0 h1 h2 hR ha hab hal hnn
  gi_wp2_with (first
    | (first | refine ⟨trivial, fun _ => by omega, ?_⟩ | refine ⟨trivial, ?_⟩); refine (callsIn_wide.2 (name_Check.calls s 0 _ hc)).mono ?_; rintro e w1 ⟨rfl, hb1⟩; have HP1 := Aside0.mk (HPk.out.below hb1); have HW1 := Aside0.mk (grownBy_of_below hb1); have c1 := (blk_cell HP1.out.cell 1).trans rfl; clear hb1)
  gi_loopw [9, 11] (fun o t wr => ∃ (p q : List Int) (fr : List (ByteArray × Int)) (k : Nat), t = .string (strOfNums (q ++ [0])) ∧ Aside0 (Full wr (w1.heap.size + 1) o p) ∧ Aside0 (PkWay S.L p q fr) ∧ Aside0 (pk S.L at_ k p q fr = R ∧ q.length < k) ∧
      Aside0 (MapV strK wr w1.heap.size fr.length (fun s => (lookL fr s).map (Value.int .i64)) fr.length) ∧ Aside0 (Pk wr bp bm nn S) ∧ Aside0 (w.grownBy wr none))
    (fun _ t _ => match t with | .string s => s.size | _ => 0)
  case atStart =>
    refine ⟨[], a, [], 256, by rw [HS.out], ⟨.inl ⟨rfl, rfl⟩⟩, HL, ⟨HR.out, by have := HAL.out; omega⟩, ⟨MapV.made w1⟩, ⟨HP1.out.below (below_alloc (Below.refl _ _) _)⟩, ⟨grownBy_of_below (below_alloc (below_of_grownBy HW1.out) _)⟩⟩
  case round =>
    obtain ⟨p, q, fr, k, rfl, HF, HWy, HK, HM, HPr, HG⟩ := hrel
    obtain ⟨A, cc, rfl, hcc, _⟩ := HF.out.reads
    have HPL : Aside0 (p.length + q.length ≤ 254) := ⟨HWy.out.len⟩
    obtain ⟨T, hT⟩ : ∃ T, T = strOfNums (q ++ [0]) := ⟨_, rfl⟩
    have hbt : bt T 0 = rd (q ++ [0]) 0 := by rw [hT]; exact bt_str (bytesB_append.2 ⟨(bytesB_append.1 HWy.out.bytes).2, by decide⟩) 0
    have hTs : T.size = q.length + 1 := by rw [hT, strOfNums_size]; simp
    have hix := str_ix T 0 (by omega) (by omega)
    rw [hbt] at hix
    have c0 := (blk_cell HPr.out.cell 0).trans rfl
    have HTs := Aside0.mk hTs
    rw [← hT]
    have HT := Aside0.mk hT
    clear hT hTs hcc c1 hbt
    by_cases hq : q = []
    · subst hq
      have HR1 : Aside0 (R = (p ++ [0], fr)) := ⟨by have := HK.out.1; have h2 := HK.out.2; cases k with | zero => omega | succ k => rw [← this]; rfl⟩
      have HRL : Aside0 (R.1.length ≤ 256) := ⟨by rw [HR1.out]; have := HPL.out; simp at this ⊢; omega⟩
      have HRF : Aside0 (R.2 = fr) := ⟨by rw [HR1.out]⟩
      have HFL : Aside0 (fr.length ≤ 254) := ⟨by have := HWy.out.few; have := HPL.out; omega⟩
      gi_wp2_with (first
        | (gi_at_builtin; refine wpListIn_append_full _ rfl _ _ rfl (w1.heap.size + 1) _ p rfl (HF.out.below (below_alloc (Below.refl _ _) (Obj.cells #[.int .u8 0] 5))) (some ⟨wr.heap.size, 0, none⟩) 1 1 [0] rfl (C_lit1 wr 0) (by have := HPL.out; omega) (by have := HM.out.lt; simp; omega) ?_; intro v' w3 hf3 hgA; have HM3 := Aside0.mk ((HM.out.alloc _).grown hgA (fun e => by have := (HF.out.base_ _ e.symm).1; omega)); have HP3 := Aside0.mk ((HPr.out.below (below_alloc (Below.refl _ _) _)).grown hgA (fun e => by have := (HF.out.base_ _ e.symm).1; have := (blk_lt HP1.out.cell); omega) (fun e => by have := (HF.out.base_ _ e.symm).1; have := HP1.out.map.lt; omega)); have HG3 := Aside0.mk ((grownBy_of_below (below_alloc (below_of_grownBy HG.out) _)).andThen hgA (fun j e => by have := (HF.out.base_ _ e).1; have := HW1.out.size; omega)); have HF3 : Aside0 (Full w3 (w1.heap.size + 1) v' R.1) := ⟨by rw [HR1.out]; exact hf3⟩; obtain ⟨A3, c3, rfl, hc3, _⟩ := HF3.out.reads; have HC3 := Aside0.mk hc3; clear hc3 hf3 hgA)
        | (gi_at_range; refine wpListIn_range_V (K := strK) _ rfl _ 55 3 rfl Try.underlying55 w1.heap.size fr.length _ fr.length rfl HM3.out ?_; intro w4 hr4 hg4 hs4; have HR4 := Aside0.mk hr4; have HF4 := Aside0.mk (HF3.out.grown hg4 (by cases A3 <;> simp [Value.ownBlock])); have HP4 := Aside0.mk (HP3.out.grown hg4 (by simp) (by simp)); have HG4 := Aside0.mk (HG3.out.andThen hg4 (fun j e => by cases e)); clear hr4 hg4 hs4))

      (try go_frame)
      gi_loopw [17] (fun _ wr => ∃ (left : ByteArray → Bool) (cnt : Nat) (done : List ByteArray), Aside0 (RangeV strK wr w1.heap.size w3.heap.size fr.length (fun s => (lookL fr s).map (Value.int .i64)) left cnt) ∧ Aside0 (done.Nodup ∧ ∀ s, s ∈ done ↔ ((lookL fr s).isSome = true ∧ left s = false)) ∧
          Aside0 (MapV strK wr bm (nn + done.length) (fun s => (if isIn s done = true then lookL fr s else lookL S.L s).map (Value.int .i64)) (S.L.length + done.length)) ∧ Aside0 (wr.heap[bp]? = some (.cells #[.map (some bm), .int .i64 S.E] 57 (0, 0))) ∧ Aside0 (Full wr (w1.heap.size + 1) (.slice A3 R.1.length c3) R.1) ∧ Aside0 (w.grownBy wr (some bm)))
        (fun _ wr => wr.rangeLeft w1.heap.size w3.heap.size)
      case atStart =>
        refine ⟨_, _, [], HR4, ⟨by simp, fun s => ?_⟩, ⟨HP4.out.map.congr (fun s => rfl)⟩, ⟨HP4.out.cell⟩, HF4, ⟨HG4.out.but _⟩⟩
        cases lookL fr s <;> simp
      case round =>
        rename_i wq
        obtain ⟨left, cnt, done, HR5, HD5, HM5, HC5, HF5, HG5⟩ := hrel
        have c5 := (blk_cell HC5.out 0).trans rfl
        gi_wp2_with (gi_at_next; refine wpListIn_next_V (K := strK) _ rfl _ rfl w1.heap.size w3.heap.size fr.length _ left cnt rfl HR5.out ?_ ?_)
        · intro hl
          have HLF := Aside0.mk hl
          clear hl
          have hw9 : IntKind.i64.wrap (at_ + R.1.length) = at_ + R.1.length := IntWalk.i64_in _ (by have := HA.out; have := HB.out; have := HRL.out; omega)
          have hz1 := blk_frozen HC5.out 1
          have c51 := (blk_cell HC5.out 1).trans rfl
          gi_wp2
          go_ret2
          refine ⟨_, _, rfl, ((HF5.out.far (p := ⟨bp, 1, none⟩) (by have := blk_lt HP1.out.cell; show bp < _; omega) _).lower (by have := HW1.out.size; omega)), pk_end HC5.out HM5.out (fun s => by rw [HD5.out.2 s, HLF.out s]; simp) HD5.out.1 HPr.out HWy.out HRL.out HRF.out HA.out HB.out, HG5.out, grownBy_put (grown_refl _ _) _ _⟩
        · intro x cx w6 cnt6 hx hlx kx hkx hcx hr6 hlt hg6 hs6 hen
          have hfx : (lookL fr x).map (Value.int .i64) = some cx := by rw [hkx, ← hcx]; rfl
          clear hkx hcx
          have HX := Aside0.mk hx
          have HR6 := Aside0.mk hr6
          have HFX : Aside0 ((lookL fr x).map (Value.int .i64) = some cx) := ⟨hfx⟩
          have HLX := Aside0.mk hlx
          have HLT := Aside0.mk hlt
          have HM6 := Aside0.mk (HM5.out.grown hg6 (fun e => by injection e with e; have := HP3.out.map.lt; omega))
          have hc6 := blk_grown HC5.out hg6 (fun e => by injection e with e; have := blk_lt HP3.out.cell; omega)
          have HC6 := Aside0.mk hc6
          have HF6 := Aside0.mk (HF5.out.grown hg6 (.inr (fun e => by have := (HF3.out.base_ _ e).2; omega)))
          have HG6 := Aside0.mk (HG5.out.andThen hg6 (fun j e => by injection e with e; have := HG3.out.size; omega))
          have HMB := Aside0.mk (done_len HD5.out.1 (fun s hs => (HD5.out.2 s).1 hs |>.1))
          have c6 := (blk_cell hc6 0).trans rfl
          clear hx hr6 hfx hlx hlt hg6 hc6
          gi_wp2_with (gi_at_mapUpdate; refine wpListIn_mapUpdate_V (K := strK) _ rfl _ _ _ 55 3 rfl Try.underlying55 bm (nn + done.length) _ _ rfl HM6.out (by have := HN.out; have := HMB.out; have := HFL.out; rw [maxLen_eq]; omega) x cx rfl rfl HX.out ?_; intro w7 hm7 hg7; have HM7 := Aside0.mk (upd_done hm7 (fun h => by have := ((HD5.out.2 x).1 h).2; rw [HLX.out] at this; cases this) HFX.out (HWy_new HWy.out HFX.out)); have HR7 := Aside0.mk (HR6.out.grown hg7 (fun e => by injection e with e; have := HP1.out.map.lt; omega) (fun e => by injection e with e; have := HP3.out.map.lt; omega)); have HC7 := Aside0.mk (blk_grown HC6.out hg7 (fun e => by injection e with e; exact HP1.out.ne e)); have HF7 := Aside0.mk (HF6.out.grown hg7 (.inr (fun e => by have := (HF3.out.base_ _ e).1; have := HP1.out.map.lt; omega))); have HG7 := Aside0.mk (HG6.out.andThen hg7 (fun j e => .inr e)); clear hm7 hg7)
          refine ⟨⟨_, _, _, _, _, _, _, _, _, _, _, _, _, ⟨_, cnt6, x :: done, HR7, ⟨?_, ?_⟩, HM7, HC7, HF7, HG7⟩, rfl⟩, ?_⟩
          · exact List.nodup_cons.2 ⟨fun h => (by have := ((HD5.out.2 x).1 h).2; rw [HLX.out] at this; cases this), HD5.out.1⟩
          · exact done_step HD5.out.2 HFX.out
          · rw [HR7.out.left_eq, HR5.out.left_eq]; exact HLT.out
    obtain ⟨c, r, rfl⟩ := List.exists_cons_of_ne_nil hq
    clear hq
    have hrd : rd (c :: r ++ [0]) 0 = c := rfl
    rw [hrd] at hix
    clear hrd
    cases hlk : lookL S.L T with
    | some t0 =>
      have hlook := HPr.out.map.look Try.underlying55 (zero3 wr) (show strK.ok T by show T.size ≤ maxLen; have := HTs.out; have := HPL.out; rw [maxLen_eq]; omega)
      rw [hlk] at hlook
      have hlook2 : (Instr.lookup 55 (.map (some bm)) (.string T) true).run Try.prog wr = .ok (.tuple #[.int .i64 t0, .bool true]) wr := hlook
      clear hlook
      have hz : (c == 0) = false := beq_eq_false_iff_ne.2 (by have h := HWy.out.lab; cases h; omega)
      have ht0 := HPr.out.tails.low _ (lookL_mem hlk)
      have hor := or_ptr ht0.1 ht0.2
      have HPT : Aside0 (octet_Put16.f (49152 + t0) = some (ptr t0, 0)) := ⟨put_ptr ht0.1 ht0.2⟩
      have HR1 : Aside0 (R = (p ++ ptr t0, fr)) := ⟨by have := HK.out.1; have h2 := HK.out.2; cases k with | zero => omega | succ k => rw [← this]; rw [HT.out] at hlk; rw [pk, hlk]⟩
      have HRL : Aside0 (R.1.length ≤ 256) := ⟨by rw [HR1.out]; have := HPL.out; simp [ptr] at this ⊢; omega⟩
      have HRF : Aside0 (R.2 = fr) := ⟨by rw [HR1.out]⟩
      have HFL : Aside0 (fr.length ≤ 254) := ⟨by have := HWy.out.few; have := HPL.out; omega⟩
      clear ht0 hlk
      gi_wp2_with (first
        | (first | refine ⟨trivial, fun _ => by omega, ?_⟩ | refine ⟨trivial, ?_⟩); refine (callsIn_wide.2 (octet_Put16.calls (49152 + t0) (ptr t0) 0 _ HPT.out)).mono ?_; rintro e w2 ⟨v2, rfl, hd2, hb2⟩; obtain ⟨A2, c2, rfl, hc2, hC2⟩ := Kd.R_reads hd2; have HCC := Aside0.mk hC2; have HM2 := Aside0.mk (HM.out.below hb2); have HP2 := Aside0.mk (HPr.out.below hb2); have HF2 := Aside0.mk (HF.out.below hb2); have HG2 := Aside0.mk (HG.out.andThen (grownBy_of_below hb2) (fun j e => by cases e)); clear hd2 hb2 hC2 hc2
        | (gi_at_builtin; refine wpListIn_append_full _ rfl _ _ rfl (w1.heap.size + 1) _ p rfl HF2.out A2 2 c2 (ptr t0) rfl HCC.out (by have := HPL.out; omega) (by have := HM2.out.lt; omega) ?_; intro v' w3 hf3 hgA; have HM3 := Aside0.mk (HM2.out.grown hgA (fun e => by have := (HF.out.base_ _ e.symm).1; omega)); have HP3 := Aside0.mk (HP2.out.grown hgA (fun e => by have := (HF.out.base_ _ e.symm).1; have := (blk_lt HP1.out.cell); omega) (fun e => by have := (HF.out.base_ _ e.symm).1; have := HP1.out.map.lt; omega)); have HG3 := Aside0.mk (HG2.out.andThen hgA (fun j e => by have := (HF.out.base_ _ e).1; have := HW1.out.size; omega)); have HF3 : Aside0 (Full w3 (w1.heap.size + 1) v' R.1) := ⟨by rw [HR1.out]; exact hf3⟩; obtain ⟨A3, c3, rfl, hc3, _⟩ := HF3.out.reads; have HC3 := Aside0.mk hc3; clear hc3 hf3 hgA)
        | (gi_at_range; refine wpListIn_range_V (K := strK) _ rfl _ 55 3 rfl Try.underlying55 w1.heap.size fr.length _ fr.length rfl HM3.out ?_; intro w4 hr4 hg4 hs4; have HR4 := Aside0.mk hr4; have HF4 := Aside0.mk (HF3.out.grown hg4 (by cases A3 <;> simp [Value.ownBlock])); have HP4 := Aside0.mk (HP3.out.grown hg4 (by simp) (by simp)); have HG4 := Aside0.mk (HG3.out.andThen hg4 (fun j e => by cases e)); clear hr4 hg4 hs4))

      (try go_frame)
      gi_loopw [17] (fun _ wr => ∃ (left : ByteArray → Bool) (cnt : Nat) (done : List ByteArray), Aside0 (RangeV strK wr w1.heap.size w3.heap.size fr.length (fun s => (lookL fr s).map (Value.int .i64)) left cnt) ∧ Aside0 (done.Nodup ∧ ∀ s, s ∈ done ↔ ((lookL fr s).isSome = true ∧ left s = false)) ∧
          Aside0 (MapV strK wr bm (nn + done.length) (fun s => (if isIn s done = true then lookL fr s else lookL S.L s).map (Value.int .i64)) (S.L.length + done.length)) ∧ Aside0 (wr.heap[bp]? = some (.cells #[.map (some bm), .int .i64 S.E] 57 (0, 0))) ∧ Aside0 (Full wr (w1.heap.size + 1) (.slice A3 R.1.length c3) R.1) ∧ Aside0 (w.grownBy wr (some bm)))
        (fun _ wr => wr.rangeLeft w1.heap.size w3.heap.size)
      case atStart =>
        refine ⟨_, _, [], HR4, ⟨by simp, fun s => ?_⟩, ⟨HP4.out.map.congr (fun s => rfl)⟩, ⟨HP4.out.cell⟩, HF4, ⟨HG4.out.but _⟩⟩
        cases lookL fr s <;> simp
      case round =>
        rename_i wq
        obtain ⟨left, cnt, done, HR5, HD5, HM5, HC5, HF5, HG5⟩ := hrel
        have c5 := (blk_cell HC5.out 0).trans rfl
        gi_wp2_with (gi_at_next; refine wpListIn_next_V (K := strK) _ rfl _ rfl w1.heap.size w3.heap.size fr.length _ left cnt rfl HR5.out ?_ ?_)
        · intro hl
          have HLF := Aside0.mk hl
          clear hl
          have hw9 : IntKind.i64.wrap (at_ + R.1.length) = at_ + R.1.length := IntWalk.i64_in _ (by have := HA.out; have := HB.out; have := HRL.out; omega)
          have hz1 := blk_frozen HC5.out 1
          have c51 := (blk_cell HC5.out 1).trans rfl
          gi_wp2
          go_ret2
          refine ⟨_, _, rfl, ((HF5.out.far (p := ⟨bp, 1, none⟩) (by have := blk_lt HP1.out.cell; show bp < _; omega) _).lower (by have := HW1.out.size; omega)), pk_end HC5.out HM5.out (fun s => by rw [HD5.out.2 s, HLF.out s]; simp) HD5.out.1 HPr.out HWy.out HRL.out HRF.out HA.out HB.out, HG5.out, grownBy_put (grown_refl _ _) _ _⟩
        · intro x cx w6 cnt6 hx hlx kx hkx hcx hr6 hlt hg6 hs6 hen
          have hfx : (lookL fr x).map (Value.int .i64) = some cx := by rw [hkx, ← hcx]; rfl
          clear hkx hcx
          have HX := Aside0.mk hx
          have HR6 := Aside0.mk hr6
          have HFX : Aside0 ((lookL fr x).map (Value.int .i64) = some cx) := ⟨hfx⟩
          have HLX := Aside0.mk hlx
          have HLT := Aside0.mk hlt
          have HM6 := Aside0.mk (HM5.out.grown hg6 (fun e => by injection e with e; have := HP3.out.map.lt; omega))
          have hc6 := blk_grown HC5.out hg6 (fun e => by injection e with e; have := blk_lt HP3.out.cell; omega)
          have HC6 := Aside0.mk hc6
          have HF6 := Aside0.mk (HF5.out.grown hg6 (.inr (fun e => by have := (HF3.out.base_ _ e).2; omega)))
          have HG6 := Aside0.mk (HG5.out.andThen hg6 (fun j e => by injection e with e; have := HG3.out.size; omega))
          have HMB := Aside0.mk (done_len HD5.out.1 (fun s hs => (HD5.out.2 s).1 hs |>.1))
          have c6 := (blk_cell hc6 0).trans rfl
          clear hx hr6 hfx hlx hlt hg6 hc6
          gi_wp2_with (gi_at_mapUpdate; refine wpListIn_mapUpdate_V (K := strK) _ rfl _ _ _ 55 3 rfl Try.underlying55 bm (nn + done.length) _ _ rfl HM6.out (by have := HN.out; have := HMB.out; have := HFL.out; rw [maxLen_eq]; omega) x cx rfl rfl HX.out ?_; intro w7 hm7 hg7; have HM7 := Aside0.mk (upd_done hm7 (fun h => by have := ((HD5.out.2 x).1 h).2; rw [HLX.out] at this; cases this) HFX.out (HWy_new HWy.out HFX.out)); have HR7 := Aside0.mk (HR6.out.grown hg7 (fun e => by injection e with e; have := HP1.out.map.lt; omega) (fun e => by injection e with e; have := HP3.out.map.lt; omega)); have HC7 := Aside0.mk (blk_grown HC6.out hg7 (fun e => by injection e with e; exact HP1.out.ne e)); have HF7 := Aside0.mk (HF6.out.grown hg7 (.inr (fun e => by have := (HF3.out.base_ _ e).1; have := HP1.out.map.lt; omega))); have HG7 := Aside0.mk (HG6.out.andThen hg7 (fun j e => .inr e)); clear hm7 hg7)
          refine ⟨⟨_, _, _, _, _, _, _, _, _, _, _, _, _, ⟨_, cnt6, x :: done, HR7, ⟨?_, ?_⟩, HM7, HC7, HF7, HG7⟩, rfl⟩, ?_⟩
          · exact List.nodup_cons.2 ⟨fun h => (by have := ((HD5.out.2 x).1 h).2; rw [HLX.out] at this; cases this), HD5.out.1⟩
          · exact done_step HD5.out.2 HFX.out
          · rw [HR7.out.left_eq, HR5.out.left_eq]; exact HLT.out
    | none =>
      obtain ⟨hc1, hc2, hc3, hstep⟩ := HWy.out.step HA.out (by rw [← HT.out]; exact hlk)
      have hlook := HPr.out.map.look Try.underlying55 (zero3 wr) (show strK.ok T by show T.size ≤ maxLen; have := HTs.out; have := HPL.out; rw [maxLen_eq]; omega)
      rw [hlk] at hlook
      have hlook2 : (Instr.lookup 55 (.map (some bm)) (.string T) true).run Try.prog wr = .ok (.tuple #[.int .i64 0, .bool false]) wr := hlook
      clear hlook
      have hz : (c == 0) = false := beq_eq_false_iff_ne.2 (by omega)
      have hw0 : IntKind.i64.wrap c = c := IntWalk.i64_in _ (by omega)
      have hw1 : IntKind.i64.wrap (1 + c) = 1 + c := IntWalk.i64_in _ (by omega)
      have hw2 : IntKind.i64.wrap (at_ + p.length) = at_ + p.length := IntWalk.i64_in _ (by have := HA.out; have := HB.out; have := HPL.out; omega)
      have hs1 := str_to T (1 + c) (by omega) (by have := HTs.out; simp only [List.length_cons] at this; omega)
      have hs2 := str_from T (1 + c) (by omega) (by have := HTs.out; simp only [List.length_cons] at this; omega)
      obtain ⟨T1, hT1⟩ : ∃ T1, T1 = T.extract 0 (1 + c).toNat := ⟨_, rfl⟩
      obtain ⟨T2, hT2⟩ : ∃ T2, T2 = T.extract (1 + c).toNat T.size := ⟨_, rfl⟩
      rw [← hT1] at hs1
      rw [← hT2] at hs2
      have hto : (1 + c).toNat = c.toNat + 1 := by omega
      have HT1 : Aside0 (bytesOf T1 = c :: r.take c.toNat) := ⟨by
        rw [hT1, HT.out, str_extract, str_bytes (bytesB_take _ (bytesB_drop _ (bytesB_append.2 ⟨(bytesB_append.1 HWy.out.bytes).2, by decide⟩))), hto]
        simp only [List.drop_zero, Nat.sub_zero, List.cons_append, List.take_succ_cons]
        rw [List.take_append_of_le_length hc3]⟩
      have HT2 : Aside0 (T2 = strOfNums (r.drop c.toNat ++ [0])) := ⟨by
        rw [hT2, HT.out, str_extract, hto, List.cons_append, List.drop_succ_cons, List.take_of_length_le (by rw [strOfNums_size]; simp), List.drop_append_of_le_length hc3]⟩
      have HST := Aside0.mk hstep
      have HLK := Aside0.mk hlk
      have HC := Aside0.mk hc1
      have HL1 : Aside0 (T1.size ≤ 254) := ⟨by
        rw [← bytesOf_len, HT1.out, List.length_cons, List.length_take]; have := HPL.out; simp only [List.length_cons] at this; omega⟩
      have HFL : Aside0 (fr.length < maxLen) := ⟨by rw [maxLen_eq]; have := HWy.out.few; have := HPL.out; omega⟩
      have HTK : Aside0 (strK.ok T) := ⟨by show T.size ≤ maxLen; have := HTs.out; have := HPL.out; rw [maxLen_eq]; omega⟩
      have HFN : Aside0 (lookL fr T = none) := ⟨by rw [HT.out]; exact HWy.out.fresh⟩
      clear hT1 hT2 hstep hc1 hc2 hc3 hlk
      by_cases hlow : at_ + (p.length : Int) < 16384
      · have d4 : decide (at_ + (p.length : Int) < 16384) = true := decide_eq_true hlow
        have HLO := Aside0.mk hlow
        clear hlow
        gi_wp2_with (first
          | (gi_at_mapUpdate; refine wpListIn_mapUpdate_V (K := strK) _ rfl _ _ _ 55 3 rfl Try.underlying55 w1.heap.size fr.length _ _ rfl HM.out HFL.out T (.int .i64 (at_ + p.length)) rfl rfl HTK.out ?_; intro w2 hm2 hg2; have HM2 := Aside0.mk (upd_map hm2 HFN.out); have HF2 := Aside0.mk (HF.out.grown hg2 (.inr (fun e => by have := (HF.out.base_ _ e).1; omega))); have HP2 := Aside0.mk (HPr.out.grown hg2 (fun e => by injection e with e; have := (blk_lt HP1.out.cell); omega) (fun e => by injection e with e; have := HP1.out.map.lt; omega)); have HG2 := Aside0.mk (HG.out.andThen hg2 (fun j e => by injection e with e; have := HW1.out.size; omega)); clear hm2 hg2)
          | (gi_at_builtin; refine wpListIn_append_full_str _ rfl _ _ rfl (w1.heap.size + 1) _ p rfl HF2.out T1 rfl (by have := HL1.out; have := HPL.out; omega) (by have := HM2.out.lt; omega) ?_; intro v' w3 hf3 hg3; have HM3 := Aside0.mk (HM2.out.grown hg3 (fun e => by have := (HF2.out.base_ _ e.symm).1; omega)); have HP3 := Aside0.mk (HP2.out.grown hg3 (fun e => by have := (HF2.out.base_ _ e.symm).1; have := (blk_lt HP1.out.cell); omega) (fun e => by have := (HF2.out.base_ _ e.symm).1; have := HP1.out.map.lt; omega)); have HG3 := Aside0.mk (HG2.out.andThen hg3 (fun j e => by have := (HF2.out.base_ _ e).1; have := HW1.out.size; omega)); rw [HT1.out] at hf3; have HF3 := Aside0.mk hf3; clear hf3 hg3))
        refine ⟨⟨p ++ c :: r.take c.toNat, r.drop c.toNat, fr ++ [(T, at_ + p.length)], k - 1, by rw [HT2.out], HF3, ⟨?_⟩, ⟨?_⟩, ⟨?_⟩, HP3, HG3⟩, ?_⟩
        · have := HST.out; rw [if_pos HLO.out, ← HT.out] at this; exact this
        · have h1 := pk_step (a := at_) (p := p) (fr := fr) (show lookL S.L (strOfNums (c :: r ++ [0])) = none by rw [← HT.out]; exact HLK.out) (show 0 < k by have := HK.out.2; omega)
          rw [if_pos HLO.out, ← HT.out] at h1
          refine ⟨h1.symm.trans HK.out.1, ?_⟩
          have := HK.out.2
          simp only [List.length_cons, List.length_drop] at this ⊢; omega
        · rw [List.length_append]; exact HM3.out
        · show T2.size < T.size
          rw [HT2.out, HTs.out, strOfNums_size]; simp only [List.length_append, List.length_drop, List.length_cons, List.length_nil]; omega
      · have d4 : decide (at_ + (p.length : Int) < 16384) = false := decide_eq_false hlow
        have HLO := Aside0.mk hlow
        clear hlow
        gi_wp2_with (first
          | (gi_at_builtin; refine wpListIn_append_full_str _ rfl _ _ rfl (w1.heap.size + 1) _ p rfl HF.out T1 rfl (by have := HL1.out; have := HPL.out; omega) (by have := HM.out.lt; omega) ?_; intro v' w3 hf3 hg3; have HM3 := Aside0.mk (HM.out.grown hg3 (fun e => by have := (HF.out.base_ _ e.symm).1; omega)); have HP3 := Aside0.mk (HPr.out.grown hg3 (fun e => by have := (HF.out.base_ _ e.symm).1; have := (blk_lt HP1.out.cell); omega) (fun e => by have := (HF.out.base_ _ e.symm).1; have := HP1.out.map.lt; omega)); have HG3 := Aside0.mk (HG.out.andThen hg3 (fun j e => by have := (HF.out.base_ _ e).1; have := HW1.out.size; omega)); rw [HT1.out] at hf3; have HF3 := Aside0.mk hf3; clear hf3 hg3))
        refine ⟨⟨p ++ c :: r.take c.toNat, r.drop c.toNat, fr, k - 1, by rw [HT2.out], HF3, ⟨?_⟩, ⟨?_⟩, HM3, HP3, HG3⟩, ?_⟩
        · have := HST.out; rw [if_neg HLO.out] at this; exact this
        · have h1 := pk_step (a := at_) (p := p) (fr := fr) (show lookL S.L (strOfNums (c :: r ++ [0])) = none by rw [← HT.out]; exact HLK.out) (show 0 < k by have := HK.out.2; omega)
          rw [if_neg HLO.out] at h1
          refine ⟨h1.symm.trans HK.out.1, ?_⟩
          have := HK.out.2
          simp only [List.length_cons, List.length_drop] at this ⊢; omega
        · show T2.size < T.size
          rw [HT2.out, HTs.out, strOfNums_size]; simp only [List.length_append, List.length_drop, List.length_cons, List.length_nil]; omega

/-- Nothing but a packer's two blocks has turned. -/
def Pkd (w w' : World) (bm bp : Nat) : Prop := ∃ w1, w.grownBy w1 (some bm) ∧ w1.grownBy w' (some bp)
theorem Pkd.size {w w' : World} {bm bp : Nat} (h : Pkd w w' bm bp) : w.heap.size ≤ w'.heap.size := by
  obtain ⟨w1, h1, h2⟩ := h; exact Nat.le_trans h1.size h2.size
theorem Pkd.blk {w w' : World} {bm bp g : Nat} {o : Obj} (h : Pkd w w' bm bp) (hg : w.heap[g]? = some o) (h1 : g ≠ bm) (h2 : g ≠ bp) : w'.heap[g]? = some o := by
  obtain ⟨w1, k1, k2⟩ := h
  exact blk_grown (blk_grown hg k1 (fun e => h1 (by injection e))) k2 (fun e => h2 (by injection e))
theorem Pkd.full {w w' : World} {bm bp base : Nat} {v : Value} {xs : List Int} (h : Pkd w w' bm bp) (hf : Full w base v xs) (h1 : v.ownBlock ≠ some bm) (h2 : v.ownBlock ≠ some bp) : Full w' base v xs := by
  obtain ⟨w1, k1, k2⟩ := h
  exact (hf.grown k1 (.inr h1)).grown k2 (.inr h2)
theorem Pkd.below {w0 w w' : World} {bm bp B : Nat} (h : Pkd w w' bm bp) (hb : Below B w0 w) (hB : B ≤ w.heap.size) (h1 : B ≤ bm) (h2 : B ≤ bp) : Below B w0 w' := by
  obtain ⟨w1, k1, k2⟩ := h
  have b1 := hb.grown k1 hB (fun j e => by injection e with e; omega)
  exact b1.grown k2 (Nat.le_trans hB k1.size) (fun j e => by injection e with e; omega)
theorem Pkd.of_below {w w' : World} {bm bp : Nat} (h : Below w.heap.size w w') : Pkd w w' bm bp := ⟨w', (grownBy_of_below h).but _, grown_refl _ _⟩

set_option maxHeartbeats 8000000 in
set_option maxRecDepth 100000 in
/-- What Name tells, and what the packer knows then. -/
theorem Packer_Name.in_ (n : Nat) (hn : 3 ≤ n) (w : World) {bp bm nn : Nat} {S : PS} (h : Pk w bp bm nn S) (hnn : nn ≤ 1000000) (at_ : Int) (s : ByteArray) (c : Int) (hc : name_Check.f s = some c) :
    CallsIn Fence.wide n Try.prog 51 #[.pointer (some ⟨bp, 0, none⟩), .int .i64 at_, .string s] w fun e w' => ∃ v, e = .returned (.tuple #[v, .int .i64 (packF S at_ s c).2.1]) ∧ Full w' w.heap.size v (packF S at_ s c).1 ∧ Pk w' bp bm (nn + 256) (packF S at_ s c).2.2 ∧ Pkd w w' bm bp := by
  have hm1 : ∀ W, (binOp BinOp.eql 55 (.map (some bm)) (.map none)).run Try.prog W = .ok (.bool false) W := fun W => by
    first | rfl | (simp [binOp, go_sem, Try.underlying55] <;> done) | (unfold binOp; simp [go_sem, Try.underlying55]; rfl)
  have c0 : w.cell? ⟨bp, 0, none⟩ = some (.map (some bm)) := (blk_cell h.cell 0).trans rfl
  have HPk := Aside0.mk h
  have HC := Aside0.mk hc
  unfold packF
  by_cases h0 : c = 0
  · subst h0
    rw [if_neg (by simp)]
    by_cases h1 : at_ < 0 ∨ 65535 < at_
    · rw [if_pos h1]
      clear h hc
      rcases h1 with h1 | h1
      · have d1 : decide (at_ < 0) = true := decide_eq_true h1
        refine callsIn_of_wp Try.func51 rfl trivial ?_ rfl
        simp only [Try.ntmps51, List.size_toArray, List.length_cons, List.length_nil, Nat.reduceAdd, Nat.reduceSub, Array.replicate_succ, Array.replicate_zero, List.push_toArray, List.append_toArray, List.nil_append, List.cons_append]
        gi_wp2_with (first
          | (first | refine ⟨trivial, fun _ => by omega, ?_⟩ | refine ⟨trivial, ?_⟩); refine (callsIn_wide.2 (name_Check.calls s 0 _ HC.out)).mono ?_; rintro e w1 ⟨rfl, hb1⟩; have HB1 := Aside0.mk hb1; clear hb1)
        go_ret2
        exact ⟨_, rfl, .inl ⟨rfl, rfl⟩, ⟨(HPk.out.below HB1.out).cell, (HPk.out.below HB1.out).map.mono (by omega), HPk.out.tails, HPk.out.end_⟩, Pkd.of_below HB1.out⟩
      · have d1 : decide (at_ < 0) = false := decide_eq_false (by omega)
        have d2 : decide ((65535 : Int) < at_) = true := decide_eq_true h1
        refine callsIn_of_wp Try.func51 rfl trivial ?_ rfl
        simp only [Try.ntmps51, List.size_toArray, List.length_cons, List.length_nil, Nat.reduceAdd, Nat.reduceSub, Array.replicate_succ, Array.replicate_zero, List.push_toArray, List.append_toArray, List.nil_append, List.cons_append]
        gi_wp2_with (first
          | (first | refine ⟨trivial, fun _ => by omega, ?_⟩ | refine ⟨trivial, ?_⟩); refine (callsIn_wide.2 (name_Check.calls s 0 _ HC.out)).mono ?_; rintro e w1 ⟨rfl, hb1⟩; have HB1 := Aside0.mk hb1; clear hb1)
        go_ret2
        exact ⟨_, rfl, .inl ⟨rfl, rfl⟩, ⟨(HPk.out.below HB1.out).cell, (HPk.out.below HB1.out).map.mono (by omega), HPk.out.tails, HPk.out.end_⟩, Pkd.of_below HB1.out⟩
    · rw [if_neg h1]
      by_cases h2 : at_ < S.E
      · rw [if_pos h2]
        have d1 : decide (at_ < 0) = false := decide_eq_false (by omega)
        have d2 : decide ((65535 : Int) < at_) = false := decide_eq_false (by omega)
        have d3 : decide (at_ < S.E) = true := decide_eq_true h2
        clear h hc h1 h2
        refine callsIn_of_wp Try.func51 rfl trivial ?_ rfl
        simp only [Try.ntmps51, List.size_toArray, List.length_cons, List.length_nil, Nat.reduceAdd, Nat.reduceSub, Array.replicate_succ, Array.replicate_zero, List.push_toArray, List.append_toArray, List.nil_append, List.cons_append]
        gi_wp2_with (first
          | (first | refine ⟨trivial, fun _ => by omega, ?_⟩ | refine ⟨trivial, ?_⟩); refine (callsIn_wide.2 (name_Check.calls s 0 _ HC.out)).mono ?_; rintro e w1 ⟨rfl, hb1⟩; have HB1 := Aside0.mk hb1; have c1 := (blk_cell (HPk.out.below hb1).cell 1).trans rfl; clear hb1)
        go_ret2
        exact ⟨_, rfl, .inl ⟨rfl, rfl⟩, ⟨(HPk.out.below HB1.out).cell, (HPk.out.below HB1.out).map.mono (by omega), HPk.out.tails, HPk.out.end_⟩, Pkd.of_below HB1.out⟩
      · rw [if_neg h2]
        obtain ⟨a, ha, hab, hal, hs⟩ := check_form hc
        have hdl : (bytesOf s).dropLast = a := by rw [hs, str_bytes (bytesB_append.2 ⟨hab, by decide⟩)]; simp
        rw [hdl]
        refine (Packer_Name.main n hn w h hnn at_ (by omega) (by omega) (by omega) s hc a ha hab hal hs _ rfl).mono ?_
        rintro e w' ⟨v, w1, rfl, h3, h4, h5, h6⟩
        exact ⟨v, rfl, h3, h4, w1, h5, h6⟩
  · have h0b : (c != 0) = true := bne_iff_ne.2 h0
    rw [if_pos h0]
    clear h hc h0
    refine callsIn_of_wp Try.func51 rfl trivial ?_ rfl
    simp only [Try.ntmps51, List.size_toArray, List.length_cons, List.length_nil, Nat.reduceAdd, Nat.reduceSub, Array.replicate_succ, Array.replicate_zero, List.push_toArray, List.append_toArray, List.nil_append, List.cons_append]
    gi_wp2_with (first
      | (first | refine ⟨trivial, fun _ => by omega, ?_⟩ | refine ⟨trivial, ?_⟩); refine (callsIn_wide.2 (name_Check.calls s c _ HC.out)).mono ?_; rintro e w1 ⟨rfl, hb1⟩; have HB1 := Aside0.mk hb1; clear hb1)
    go_ret2
    exact ⟨_, rfl, .inl ⟨rfl, rfl⟩, ⟨(HPk.out.below HB1.out).cell, (HPk.out.below HB1.out).map.mono (by omega), HPk.out.tails, HPk.out.end_⟩, Pkd.of_below HB1.out⟩
end Go.Proofs.Ytjjbhpbmfpodeaa.X
end
section
namespace Go.Proofs.Ytjjbhpbmfpodeaa.X
open Go.RowKit Go.Proofs.YtjjbhpbmfpodeaaW.PrintWords Go.Proofs.YtjjbhpbmfpodeaaW.PrintLast Go.Proofs.YtjjbhpbmfpodeaaW.PrintMore
attribute [local go_sem] max2_int min2_int max_two min_two max_three min_three max_four min_four   -- for this text's walks alone
set_option linter.unusedVariables false
set_option linter.unusedSimpArgs false

/-! ### name_Count: function 54 -/
def name_Count.f (a0 : ByteArray) : Option (Int) := (name_Labels.f a0).bind fun bt101 => (some (bt101.1.length : Int))
set_option maxHeartbeats 8000000 in
set_option maxRecDepth 100000 in
theorem name_Count.calls (a0 : ByteArray) (r : Int) (w : World) (h : name_Count.f a0 = some r) :
    Calls Try.prog 54 #[.string a0] w fun e w' => e = .returned (.int .i64 r) ∧ Below w.heap.size w w' := by
  have HB := Aside0.mk (Below.refl w.heap.size w)
  have H : ((name_Labels.f a0).bind fun bt101 => (some (bt101.1.length : Int))) = some r := h
  clear h
  replace H := Option.bind_eq_some_iff.mp H
  obtain ⟨⟨t101, t102⟩, A20, H⟩ := H
  replace H : (some (t101.length : Int)) = some r := H
  have A2 := Aside0.mk A20
  clear A20
  obtain rfl := Option.some.inj H
  go_enter Try.func54, Try.ntmps54
  go_wp2_with (first | ((with_reducible refine gate_callee (f := 93) rfl ?_); refine goesL_ (some 7) rfl rfl Try.func93 (by kernel_rfl) rfl #[.string a0] rfl (by (try simp only [List.map_toArray, List.map_cons, List.map_nil]); first | done | rfl | (simp only [List.length_drop, List.length_take]; rfl)) ?_; (with_reducible refine (name_Labels.calls a0 t101 t102 _ A2.out).mono ?_); rintro e w3 ⟨v103, rfl, ho0, hb⟩; refine ⟨_, rfl, ?_⟩; have n0_ := Aside0.mk (Kd.R_lower ho0 (below_size (by repeat (first | (with_reducible first | exact HB.out | apply below_alloc | apply pw_below_drewN | apply below_drew1) | exact HB.out)))); have n1_ := Aside0.mk (below_step (by repeat (first | (with_reducible first | exact HB.out | apply below_alloc | apply pw_below_drewN | apply below_drew1) | exact HB.out)) hb); clear HB; have HO104 := n0_; have HB := n1_; clear n0_ n1_; (try clear hb); (try clear hb2); (try clear hk); (try clear hi); (try clear ho0); obtain ⟨Ao4, co4, eo4⟩ := Kd.R_slice HO104.out; subst eo4))
  go_ret
  exact ⟨by first | rfl | (simp [errW_none, errW_some] <;> rfl) | (simp [*, errW_none, errW_some] <;> rfl), by repeat (first | (with_reducible first | exact HB.out | apply below_alloc | apply pw_below_drewN | apply below_drew1) | exact HB.out)⟩

end Go.Proofs.Ytjjbhpbmfpodeaa.X
end
section
namespace Go.Proofs.Ytjjbhpbmfpodeaa.X
open Go.RowKit Go.Proofs.YtjjbhpbmfpodeaaW.PrintWords Go.Proofs.YtjjbhpbmfpodeaaW.PrintLast Go.Proofs.YtjjbhpbmfpodeaaW.PrintMore
attribute [local go_sem] max2_int min2_int max_two min_two max_three min_three max_four min_four   -- for this text's walks alone
set_option linter.unusedVariables false
set_option linter.unusedSimpArgs false

/-! ### name_Parent: function 55 -/
def name_Parent.f (a0 : ByteArray) : Option (ByteArray × Bool) := (name_Check.f a0).bind fun t101 => (if t101 = 0 then (if a0.toList = ([0] : List UInt8) then (some ((⟨#[]⟩ : ByteArray), false)) else (if 0 < (a0.size : Int) then (if 0 ≤ (wrap64 (1 + (wrap64 (bt a0 0)))) then (if (wrap64 (1 + (wrap64 (bt a0 0)))) ≤ (a0.size : Int) then (some (a0.extract ((wrap64 (1 + (wrap64 (bt a0 0)))) : Int).toNat a0.size, true)) else (none)) else (none)) else (none))) else (some ((⟨#[]⟩ : ByteArray), false)))
set_option maxHeartbeats 8000000 in
set_option maxRecDepth 100000 in
theorem name_Parent.calls (a0 : ByteArray) (r1 : ByteArray) (r2 : Bool) (w : World) (h : name_Parent.f a0 = some (r1, r2)) :
    Calls Try.prog 55 #[.string a0] w fun e w' => e = .returned (.tuple #[.string r1, .bool r2]) ∧ Below w.heap.size w w' := by
  have HB := Aside0.mk (Below.refl w.heap.size w)
  have H : ((name_Check.f a0).bind fun t101 => (if t101 = 0 then (if a0.toList = ([0] : List UInt8) then (some ((⟨#[]⟩ : ByteArray), false)) else (if 0 < (a0.size : Int) then (if 0 ≤ (wrap64 (1 + (wrap64 (bt a0 0)))) then (if (wrap64 (1 + (wrap64 (bt a0 0)))) ≤ (a0.size : Int) then (some (a0.extract ((wrap64 (1 + (wrap64 (bt a0 0)))) : Int).toNat a0.size, true)) else (none)) else (none)) else (none))) else (some ((⟨#[]⟩ : ByteArray), false)))) = some (r1, r2) := h
  clear h
  replace H := Option.bind_eq_some_iff.mp H
  obtain ⟨t101, A20, H⟩ := H
  replace H : (if t101 = 0 then (if a0.toList = ([0] : List UInt8) then (some ((⟨#[]⟩ : ByteArray), false)) else (if 0 < (a0.size : Int) then (if 0 ≤ (wrap64 (1 + (wrap64 (bt a0 0)))) then (if (wrap64 (1 + (wrap64 (bt a0 0)))) ≤ (a0.size : Int) then (some (a0.extract ((wrap64 (1 + (wrap64 (bt a0 0)))) : Int).toNat a0.size, true)) else (none)) else (none)) else (none))) else (some ((⟨#[]⟩ : ByteArray), false))) = some (r1, r2) := H
  have A2 := Aside0.mk A20
  clear A20
  by_cases c3 : t101 = 0
  · rw [if_pos c3] at H
    have c3b0 : (t101 == 0) = true := beq_iff_eq.mpr c3
    have c3b1 : (t101 != 0) = false := bne_eq_false_iff_eq.mpr c3
    clear c3
    by_cases c4 : a0.toList = ([0] : List UInt8)
    · rw [if_pos c4] at H
      have c4b0 : (a0.toList == ([0] : List UInt8)) = true := beq_iff_eq.mpr c4
      have c4b1 : (a0.toList != ([0] : List UInt8)) = false := bne_eq_false_iff_eq.mpr c4
      clear c4
      simp only [Option.some.injEq, Prod.mk.injEq] at H
      obtain ⟨rfl, rfl⟩ := H
      go_enter Try.func55, Try.ntmps55
      go_wp2_with (first | ((with_reducible refine gate_callee (f := 48) rfl ?_); refine goesL_ (some 5) rfl rfl Try.func48 (by kernel_rfl) rfl #[.string a0] rfl (by (try simp only [List.map_toArray, List.map_cons, List.map_nil]); first | done | rfl | (simp only [List.length_drop, List.length_take]; rfl)) ?_; (with_reducible refine (name_Check.calls a0 t101 _ A2.out).mono ?_); rintro e w5 ⟨rfl, hb⟩; refine ⟨_, rfl, ?_⟩; have n0_ := Aside0.mk (below_step (by repeat (first | (with_reducible first | exact HB.out | apply below_alloc | apply pw_below_drewN | apply below_drew1) | exact HB.out)) hb); clear HB; have HB := n0_; clear n0_; (try clear hb); (try clear hb2); (try clear hk); (try clear hi)))
      go_ret2
      exact ⟨by first | rfl | (simp [errW_none, errW_some] <;> rfl) | (simp [*, errW_none, errW_some] <;> rfl), by repeat (first | (with_reducible first | exact HB.out | apply below_alloc | apply pw_below_drewN | apply below_drew1) | exact HB.out)⟩
    · rw [if_neg c4] at H
      have c4b0 : (a0.toList == ([0] : List UInt8)) = false := beq_eq_false_iff_ne.mpr c4
      have c4b1 : (a0.toList != ([0] : List UInt8)) = true := bne_iff_ne.mpr c4
      by_cases c6 : 0 < (a0.size : Int)
      · rw [if_pos c6] at H
        have c6b0 : decide (0 < (a0.size : Int)) = true := decide_eq_true c6
        have c6b1 : decide (0 < a0.size) = true := decide_eq_true (by omega)
        clear c6
        obtain ⟨ji8, hji8⟩ : ∃ j_ : Int, (wrap64 (1 + (wrap64 (bt a0 0)))) = j_ := ⟨_, rfl⟩
        replace H : (if 0 ≤ (ji8) then (if (ji8) ≤ (a0.size : Int) then (some (a0.extract ((ji8) : Int).toNat a0.size, true)) else (none)) else (none)) = some (r1, r2) := by first | (rw [hji8] at H; exact H) | (simp only [hji8] at H ⊢; exact H)
        (try rw [hji8] at A2)
        have hji8w : (IntKind.i64.wrap (1 + (wrap64 (bt a0 0)))) = ji8 := (i64_w _).trans hji8
        by_cases c9 : 0 ≤ (ji8)
        · rw [if_pos c9] at H
          have c9b0 := eq_true c9
          have c9b1 : decide (0 ≤ (ji8)) = true := decide_eq_true c9
          clear c9
          by_cases c10 : (ji8) ≤ (a0.size : Int)
          · rw [if_pos c10] at H
            have c10b0 := eq_true c10
            have c10b1 : decide ((ji8) ≤ (a0.size : Int)) = true := decide_eq_true c10
            clear c10
            simp only [Option.some.injEq, Prod.mk.injEq] at H
            obtain ⟨rfl, rfl⟩ := H
            go_enter Try.func55, Try.ntmps55
            go_wp2_with (first | ((with_reducible refine gate_callee (f := 48) rfl ?_); refine goesL_ (some 5) rfl rfl Try.func48 (by kernel_rfl) rfl #[.string a0] rfl (by (try simp only [List.map_toArray, List.map_cons, List.map_nil]); first | done | rfl | (simp only [List.length_drop, List.length_take]; rfl)) ?_; (with_reducible refine (name_Check.calls a0 t101 _ A2.out).mono ?_); rintro e w11 ⟨rfl, hb⟩; refine ⟨_, rfl, ?_⟩; have n0_ := Aside0.mk (below_step (by repeat (first | (with_reducible first | exact HB.out | apply below_alloc | apply pw_below_drewN | apply below_drew1) | exact HB.out)) hb); clear HB; have HB := n0_; clear n0_; (try clear hb); (try clear hb2); (try clear hk); (try clear hi); have p7 : 0 ≤ (0 : Int) := (by omega); have q7 : 0 < a0.size := (by have : (0 : Int) < (a0.size : Int) := of_decide_eq_true (by first | (with_reducible assumption) | assumption); omega); have hx7 : ∀ h : 0 < a0.size, ((a0[0]'h).toNat : Int) = bt a0 0 := bt_at a0 0; clear p7; have qi7 : (0 < (a0.size : Int)) = True := eq_true (of_decide_eq_true (by first | (with_reducible assumption) | assumption)); replace q7 := eq_true q7))
            go_ret2
            exact ⟨by first | rfl | (simp [errW_none, errW_some] <;> rfl) | (simp only [← hji8]; first | rfl | (simp [errW_none, errW_some] <;> rfl)) | (simp [*, errW_none, errW_some] <;> rfl), by repeat (first | (with_reducible first | exact HB.out | apply below_alloc | apply pw_below_drewN | apply below_drew1) | exact HB.out)⟩
          · rw [if_neg c10] at H
            exact absurd H (by simp)
        · rw [if_neg c9] at H
          exact absurd H (by simp)
      · rw [if_neg c6] at H
        exact absurd H (by simp)
  · rw [if_neg c3] at H
    have c3b0 : (t101 == 0) = false := beq_eq_false_iff_ne.mpr c3
    have c3b1 : (t101 != 0) = true := bne_iff_ne.mpr c3
    simp only [Option.some.injEq, Prod.mk.injEq] at H
    obtain ⟨rfl, rfl⟩ := H
    go_enter Try.func55, Try.ntmps55
    go_wp2_with (first | ((with_reducible refine gate_callee (f := 48) rfl ?_); refine goesL_ (some 5) rfl rfl Try.func48 (by kernel_rfl) rfl #[.string a0] rfl (by (try simp only [List.map_toArray, List.map_cons, List.map_nil]); first | done | rfl | (simp only [List.length_drop, List.length_take]; rfl)) ?_; (with_reducible refine (name_Check.calls a0 t101 _ A2.out).mono ?_); rintro e w12 ⟨rfl, hb⟩; refine ⟨_, rfl, ?_⟩; have n0_ := Aside0.mk (below_step (by repeat (first | (with_reducible first | exact HB.out | apply below_alloc | apply pw_below_drewN | apply below_drew1) | exact HB.out)) hb); clear HB; have HB := n0_; clear n0_; (try clear hb); (try clear hb2); (try clear hk); (try clear hi)))
    go_ret2
    exact ⟨by first | rfl | (simp [errW_none, errW_some] <;> rfl) | (simp [*, errW_none, errW_some] <;> rfl), by repeat (first | (with_reducible first | exact HB.out | apply below_alloc | apply pw_below_drewN | apply below_drew1) | exact HB.out)⟩

end Go.Proofs.Ytjjbhpbmfpodeaa.X
end
section
namespace Go.Proofs.Ytjjbhpbmfpodeaa.PB
open Go.RowKit Go.Proofs.Ytjjbhpbmfpodeaa.X Go.Proofs.YtjjbhpbmfpodeaaW.PrintWords Go.Proofs.YtjjbhpbmfpodeaaW.PrintLast
set_option linter.unusedVariables false
set_option linter.unusedSimpArgs false

def tls : Nat → Int → List Int → List (ByteArray × Int)
  | 0, _, _ => []
  | _ + 1, _, [] => []
  | k + 1, a, c :: r => (strOfNums (c :: r ++ [0]), a) :: tls k (a + 1 + c) (r.drop c.toNat)

theorem lab_cut {c : Int} {x r : List Int} (h3 : (x.length : Int) = c) : (x ++ r).take c.toNat = x ∧ (x ++ r).drop c.toNat = r := by
  have hc : c.toNat = x.length := by omega
  rw [hc]
  exact ⟨List.take_left, List.drop_left⟩

theorem pk_first {q : List Int} (hq : Lab q) : ∀ (k : Nat) (p : List Int) (fr : List (ByteArray × Int)) (a : Int), q.length < k → a + p.length + q.length < 16384 → pk [] a k p q fr = (p ++ q ++ [0], fr ++ tls k (a + p.length) q) := by
  induction hq with
  | nil =>
    intro k p fr a hk _
    cases k with
    | zero => simp at hk
    | succ k => simp [pk, tls]
  | cons c x r h1 h2 h3 _ ih =>
    intro k p fr a hk ha
    cases k with
    | zero => omega
    | succ k =>
      obtain ⟨e1, e2⟩ := lab_cut (r := r) h3
      simp only [List.length_cons, List.length_append] at hk ha
      rw [pk, lookL_nil, tls]
      show pk [] a k _ _ _ = _
      rw [e1, e2, if_pos (by omega), ih k _ _ a (by omega) (by simp only [List.length_append, List.length_cons]; omega)]
      have e3 : a + ((p ++ c :: x).length : Int) = a + p.length + 1 + c := by simp only [List.length_append, List.length_cons]; omega
      rw [e3]
      simp

theorem tls_len {q : List Int} (hq : Lab q) : ∀ (k k' : Nat) (a : Int), bytesB q = true → q.length < k → q.length < k' → (tls k a q).length = (lbEvs k' (strOfNums (q ++ [0]))).length := by
  induction hq with
  | nil =>
    intro k k' a _ hk hk'
    cases k with
    | zero => simp at hk
    | succ k =>
      cases k' with
      | zero => simp at hk'
      | succ k' => rw [List.nil_append, lbEvs, if_pos ((lbRoot_str (by decide)).2 rfl)]; rfl
  | cons c x r h1 h2 h3 _ ih =>
    intro k k' a hb hk hk'
    cases k with
    | zero => omega
    | succ k =>
      cases k' with
      | zero => omega
      | succ k' =>
        obtain ⟨e1, e2⟩ := lab_cut (r := r) h3
        simp only [List.length_cons, List.length_append] at hk hk'
        have hb2 : bytesB ((c :: (x ++ r)) ++ [0]) = true := bytesB_append.2 ⟨hb, by decide⟩
        have hbr : bytesB r = true := by
          have e : c :: (x ++ r) = (c :: x) ++ r := rfl
          rw [e] at hb; exact (bytesB_append.1 hb).2
        have hbt : bt (strOfNums ((c :: (x ++ r)) ++ [0])) 0 = c := by rw [bt_str hb2]; rfl
        have hsz : (strOfNums ((c :: (x ++ r)) ++ [0])).size = x.length + r.length + 2 := by rw [strOfNums_size]; simp; omega
        rw [tls, e2, List.length_cons, ih k k' _ hbr (by omega) (by omega)]
        rw [lbEvs, if_neg (fun h => by have := congrArg List.length ((lbRoot_str hb2).1 h); simp at this)]
        have hnb : ¬ lbBad (strOfNums ((c :: (x ++ r)) ++ [0])) = true := by
          unfold lbBad
          rw [hbt, hsz]
          simp
          omega
        rw [if_neg hnb, List.length_cons]
        have hrest : lbRest (strOfNums ((c :: (x ++ r)) ++ [0])) = strOfNums (r ++ [0]) := by
          unfold lbRest
          rw [hbt, str_extract, hsz]
          congr 1
          have e : 1 + c.toNat = (c :: x).length := by simp; omega
          have e2 : (c :: (x ++ r)) ++ [0] = (c :: x) ++ (r ++ [0]) := by simp
          rw [e2, e, List.drop_left, List.take_of_length_le (by simp; omega)]
        rw [hrest]

theorem tls_look {s' : List Int} (hs' : Lab s') : ∀ (s : List Int) (k : Nat) (a : Int), Lab s → s ≠ [] → (s' ++ s).length < k → ∃ t, lookL (tls k a (s' ++ s)) (strOfNums (s ++ [0])) = some t := by
  induction hs' with
  | nil =>
    intro s k a hs hne hk
    cases s with
    | nil => exact absurd rfl hne
    | cons c r =>
      cases k with
      | zero => simp at hk
      | succ k => exact ⟨a, by rw [List.nil_append, tls, lookL_cons, if_pos rfl]⟩
  | cons c x r h1 h2 h3 _ ih =>
    intro s k a hs hne hk
    cases k with
    | zero => simp at hk
    | succ k =>
      have e0 : (c :: (x ++ r)) ++ s = c :: (x ++ (r ++ s)) := by simp
      rw [e0] at hk ⊢
      obtain ⟨e1, e2⟩ := lab_cut (r := r ++ s) h3
      simp only [List.length_cons, List.length_append] at hk
      obtain ⟨t, ht⟩ := ih s k (a + 1 + c) hs hne (by simp only [List.length_append]; omega)
      rw [tls, lookL_cons, e2]
      split
      · exact ⟨a, rfl⟩
      · exact ⟨t, ht⟩

theorem drop_name {q : List Int} (hb : bytesB q = true) : (bytesOf (strOfNums (q ++ [0]))).dropLast = q := by
  rw [str_bytes (bytesB_append.2 ⟨hb, by decide⟩)]; simp

/-- The first time. -/
theorem pack_first {q : List Int} (hq : Lab q) (hb : bytesB q = true) (hl : q.length ≤ 254) {a : Int} (h0 : 0 ≤ a) (h1 : a ≤ 16000) :
    packF ⟨[], 0⟩ a (strOfNums (q ++ [0])) 0 = (q ++ [0], 0, ⟨tls 256 a q, a + q.length + 1⟩) := by
  unfold packF
  rw [if_neg (by simp), if_neg (by omega), if_neg (by show ¬ a < 0; omega), drop_name hb, pk_first hq 256 [] [] a (by omega) (by simp; omega)]
  simp
  omega
/-- The second time. -/
theorem pack_again {L : List (ByteArray × Int)} {E : Int} {s : List Int} (hb : bytesB s = true) (h0 : 0 ≤ E) (h1 : E ≤ 65535) (hne : s ≠ []) {t : Int} (ht : lookL L (strOfNums (s ++ [0])) = some t) :
    packF ⟨L, E⟩ E (strOfNums (s ++ [0])) 0 = (ptr t, 0, ⟨L, E + 2⟩) := by
  unfold packF
  obtain ⟨c, r, rfl⟩ := List.exists_cons_of_ne_nil hne
  rw [if_neg (by simp), if_neg (by omega), if_neg (by show ¬ E < E; omega), drop_name hb]
  have e : pk L E 256 [] (c :: r) [] = (ptr t, []) := by rw [pk, ht]; rfl
  show ((pk L E 256 [] (c :: r) []).1, (0 : Int), (⟨L ++ (pk L E 256 [] (c :: r) []).2, E + ((pk L E 256 [] (c :: r) []).1.length : Int)⟩ : PS)) = _
  rw [e]
  simp [ptr]
theorem pack_root {L : List (ByteArray × Int)} {E : Int} (h0 : 0 ≤ E) (h1 : E ≤ 65535) : packF ⟨L, E⟩ E (strOfNums [0]) 0 = ([0], 0, ⟨L, E + 1⟩) := by
  unfold packF
  rw [if_neg (by simp), if_neg (by omega), if_neg (by show ¬ E < E; omega)]
  have e : (bytesOf (strOfNums [0])).dropLast = [] := drop_name (q := []) (by decide)
  rw [e]
  show ((pk L E 256 [] [] []).1, (0 : Int), (⟨L ++ (pk L E 256 [] [] []).2, E + ((pk L E 256 [] [] []).1.length : Int)⟩ : PS)) = _
  simp [pk]

theorem check_some {s : ByteArray} (hs : s.size ≤ 2000000) : ∃ c, name_Check.f s = some c := by
  unfold name_Check.f name_Labels.f
  rw [if_pos hs]
  exact ⟨_, rfl⟩
theorem count_name {q : List Int} (hq : Lab q) (hb : bytesB q = true) (hl : q.length ≤ 254) (a : Int) : name_Count.f (strOfNums (q ++ [0])) = some ((tls 256 a q).length : Int) := by
  have hsz : (strOfNums (q ++ [0])).size = q.length + 1 := by rw [strOfNums_size]; simp
  unfold name_Count.f name_Labels.f
  rw [if_pos (by omega), if_pos (evs_lab hq _ hb), if_neg (by omega)]
  simp only [Option.bind_some, List.length_map]
  rw [tls_len hq 256 ((strOfNums (q ++ [0])).size + 1) a hb (by omega) (by omega)]
theorem parent_root : name_Parent.f (strOfNums [0]) = some (⟨#[]⟩, false) := by
  unfold name_Parent.f
  have h := check_ok (a := []) .nil (by decide) (by simp)
  rw [List.nil_append] at h
  rw [h]
  simp only [Option.bind_some]
  rw [if_pos trivial, if_pos (by rw [ByteArray.toList_eq]; rfl)]
theorem parent_name {c : Int} {x r : List Int} (h1 : 1 ≤ c) (h2 : c ≤ 63) (h3 : (x.length : Int) = c) (hr : Lab r) (hb : bytesB (c :: (x ++ r)) = true) (hl : (c :: (x ++ r)).length ≤ 254) :
    name_Parent.f (strOfNums (c :: (x ++ r) ++ [0])) = some (strOfNums (r ++ [0]), true) := by
  have hb2 : bytesB (c :: (x ++ r) ++ [0]) = true := bytesB_append.2 ⟨hb, by decide⟩
  have hbt : bt (strOfNums (c :: (x ++ r) ++ [0])) 0 = c := by rw [bt_str hb2]; rfl
  have hsz : (strOfNums (c :: (x ++ r) ++ [0])).size = x.length + r.length + 2 := by rw [strOfNums_size]; simp; omega
  unfold name_Parent.f
  rw [check_ok (.cons c x r h1 h2 h3 hr) hb hl]
  simp only [Option.bind_some]
  rw [if_pos trivial, if_neg (fun h => by have := congrArg List.length h; rw [ByteArray.toList_eq] at this; simp [strOfNums_data] at this)]
  rw [hbt, hsz, w64 (x := c) (by omega) (by omega), w64 (by omega) (by omega), if_pos (by omega), if_pos (by omega), if_pos (by simp at hl; omega)]
  rw [str_extract]
  congr 3
  have e : (1 + c).toNat = (c :: x).length := by simp; omega
  have e2 : c :: (x ++ r) ++ [0] = (c :: x) ++ (r ++ [0]) := by simp
  rw [e2, e, List.drop_left, List.take_of_length_le (by simp; omega)]
end Go.Proofs.Ytjjbhpbmfpodeaa.PB
end
section
namespace Go.Proofs.Ytjjbhpbmfpodeaa.X
open Go.RowKit Go.Proofs.Ytjjbhpbmfpodeaa.PB Go.Proofs.YtjjbhpbmfpodeaaW.PrintWords Go.Proofs.YtjjbhpbmfpodeaaW.PrintLast Go.Proofs.YtjjbhpbmfpodeaaW.PrintMore
set_option linter.unusedVariables false
set_option linter.unusedSimpArgs false
attribute [local go_sem] Oper.semAt_some

def lowI (c : Int) : Int := if 65 ≤ c ∧ c ≤ 90 then c + 32 else c
def lowL (l : List Int) : List Int := l.map lowI
/-- What Lower tells. -/
def name_Lower.f (s : ByteArray) : Option ByteArray := if s.size ≤ 100000000000 then some (strOfNums (lowL (bytesOf s))) else none

/-- The block of bytes that a conversion has laid (its last cell bears the conversion's mark), some of them turned. -/
def Conv (w : World) (b : Nat) (xs : List Int) : Prop := ∃ cs N, w.heap[b]? = some (.cells cs 5 (N, N + 1)) ∧ xs.length ≤ N ∧ ∀ j, j < xs.length → cs[j]? = some (.int .u8 (xs.getD j 0))
theorem Conv.cell {w : World} {b : Nat} {xs : List Int} (h : Conv w b xs) (j : Nat) (hj : j < xs.length) : w.cell? ⟨b, j, none⟩ = some (.int .u8 (xs.getD j 0)) := by
  obtain ⟨cs, N, h1, h2, h3⟩ := h
  rw [cell_of_row w b j cs 5 _ h1]; exact h3 j hj
theorem Conv.frozen {w : World} {b : Nat} {xs : List Int} (h : Conv w b xs) (j : Nat) (hj : j < xs.length) : w.frozen? ⟨b, j, none⟩ = false := by
  obtain ⟨cs, N, h1, h2, h3⟩ := h
  simp [World.frozen?, h1]; omega
theorem Conv.put {w : World} {b : Nat} {xs : List Int} (h : Conv w b xs) (i : Nat) (hi : i < xs.length) (x : Int) : Conv (w.setCell ⟨b, i, none⟩ (.int .u8 x)) b (xs.set i x) := by
  obtain ⟨cs, N, h1, h2, h3⟩ := h
  refine ⟨cs.setIfInBounds i (.int .u8 x), N, by simp [World.setCell, Array.getElem?_modify, h1], by rw [List.length_set]; exact h2, fun j hj => ?_⟩
  rw [List.length_set] at hj
  by_cases e : i = j
  · subst e
    have hs : i < cs.size := by
      have := h3 i hi
      rcases Nat.lt_or_ge i cs.size with h | h
      · exact h
      · rw [Array.getElem?_eq_none h] at this; cases this
    simp [hs, hj]
  · rw [Array.getElem?_setIfInBounds_ne e, h3 j hj]; simp [List.getD_eq_getElem?_getD, List.getElem?_set_ne e]
theorem Conv.start (w : World) (s : ByteArray) : Conv (Lib.bytesWorld w 5 s) w.heap.size (bytesOf s) := by
  refine ⟨_, _, Lib.bytesWorld_at_new w 5 s, ?_, fun j hj => ?_⟩
  · rw [bytesOf_length]; simp [Lib.bytesCells]
  · have h1 := Lib.bytesWorld_cell w 5 s j (by rwa [bytesOf_length] at hj)
    rw [cell_of_row _ _ j _ 5 _ (Lib.bytesWorld_at_new w 5 s)] at h1
    rw [h1]
    unfold bytesOf at hj ⊢
    rw [List.length_map] at hj
    simp [List.getD_eq_getElem?_getD, List.getElem?_eq_getElem hj]

theorem low_step (L : List Int) (i : Nat) (h : i < L.length) : (lowL (L.take i) ++ L.drop i).set i (lowI (L.getD i 0)) = lowL (L.take (i + 1)) ++ L.drop (i + 1) := by
  have hl : (lowL (L.take i)).length = i := by simp [lowL]; omega
  rw [List.set_append_right _ _ (by omega), hl, Nat.sub_self, List.drop_eq_getElem_cons h, List.set_cons_zero, List.take_succ_eq_append_getElem h]
  unfold lowL
  rw [List.map_append, List.append_assoc]
  simp only [List.map_cons, List.map_nil, List.singleton_append, List.getD_eq_getElem?_getD, List.getElem?_eq_getElem h, Option.getD_some]
theorem low_at (L : List Int) (i : Nat) (h : i < L.length) : (lowL (L.take i) ++ L.drop i).getD i 0 = L.getD i 0 := by
  have hl : (lowL (L.take i)).length = i := by simp [lowL]; omega
  rw [List.getD_eq_getElem?_getD, List.getElem?_append_right (by omega), hl, Nat.sub_self, List.getElem?_drop, Nat.add_zero, List.getD_eq_getElem?_getD]

set_option maxHeartbeats 8000000 in
set_option maxRecDepth 100000 in
theorem name_Lower.in_ (n : Nat) (hn : 1 ≤ n) (s : ByteArray) (hs : s.size ≤ 100000000000) (w : World) :
    CallsIn Fence.wide n Try.prog 70 #[.string s] w fun e w' => e = .returned (.string (strOfNums (lowL (bytesOf s)))) ∧ Below w.heap.size w w' := by
  have hcv : ∀ W : World, (convert 9 22 (.string s)).run Try.prog W = .ok (.slice (some ⟨W.heap.size, 0, none⟩) s.size (grownCap W s.size 0 5)) (Lib.bytesWorld W 5 s) := fun W => Lib.run_convert_string_bytes W 9 22 5 s Try.underlying9 Try.underlying22 Try.underlying5
  have HL := Aside0.mk hs
  clear hs
  refine callsIn_of_wp Try.func70 rfl trivial ?_ rfl
  simp only [Try.ntmps70, List.size_toArray, List.length_cons, List.length_nil, Nat.reduceAdd, Nat.reduceSub, Array.replicate_succ, Array.replicate_zero, List.push_toArray, List.append_toArray, List.nil_append, List.cons_append]
  gi_wp2
  gi_loopw [10] (fun p wr => ∃ i : Int, p = .int .i64 i ∧ 0 ≤ i ∧ i ≤ (s.size : Int) ∧ Aside0 (Conv wr w.heap.size (lowL ((bytesOf s).take i.toNat) ++ (bytesOf s).drop i.toNat)) ∧ Aside0 (Below w.heap.size w wr)) (fun p _ => match p with | .int _ i => ((s.size : Int) - i).toNat | _ => 0)
  case atStart =>
    refine ⟨0, rfl, by omega, by omega, ⟨?_⟩, ⟨Lib.bytesWorld_below w 5 s⟩⟩
    exact Conv.start w s
  case round =>
    obtain ⟨i, rfl, h0, h1, HC, HB⟩ := hrel
    have hbl : (bytesOf s).length = s.size := bytesOf_length s
    have hlen : (lowL ((bytesOf s).take i.toNat) ++ (bytesOf s).drop i.toNat).length = s.size := by simp [lowL, hbl]; omega
    by_cases hlt : i < (s.size : Int)
    · have hlt1 : decide (i < (s.size : Int)) = true := decide_eq_true hlt
      have hc := HC.out.cell i.toNat (by omega)
      rw [low_at _ _ (by omega)] at hc
      have hf := HC.out.frozen i.toNat (by omega)
      have hstep := low_step (bytesOf s) i.toNat (by omega)
      have hbr : 0 ≤ (bytesOf s).getD i.toNat 0 ∧ (bytesOf s).getD i.toNat 0 ≤ 255 := by
        have := bt_range s i; rw [← rd_bytesOf] at this; exact this
      have hput := HC.out.put i.toNat (by omega) (lowI ((bytesOf s).getD i.toNat 0))
      rw [hstep] at hput
      have hno : ¬ (65 ≤ (bytesOf s).getD i.toNat 0 ∧ (bytesOf s).getD i.toNat 0 ≤ 90) → lowL ((bytesOf s).take (i.toNat + 1)) ++ (bytesOf s).drop (i.toNat + 1) = lowL ((bytesOf s).take i.toNat) ++ (bytesOf s).drop i.toNat := fun hnn => by
        rw [← hstep, lowI, if_neg hnn, ← low_at (bytesOf s) i.toNat (by omega), List.getD_eq_getElem?_getD, List.getElem?_eq_getElem (by omega)]
        exact List.set_getElem_self _
      have HNO := Aside0.mk hno
      clear hno
      have HP := Aside0.mk hput
      have HBL := Aside0.mk hbl
      generalize (bytesOf s).getD i.toNat 0 = x at *
      clear hstep hput hlen hbl
      have hwi : IntKind.i64.wrap (i + 1) = i + 1 := IntWalk.i64_in _ (by have := HL.out; omega)
      by_cases hup : 65 ≤ x ∧ x ≤ 90
      · have g1 : decide (65 ≤ x) = true := decide_eq_true hup.1
        have g2 : decide (x ≤ 90) = true := decide_eq_true hup.2
        have hu1 : IntKind.u8.wrap (x + 97) = x + 97 := by rw [IntKind.wrap_u8]; omega
        have hu2 : IntKind.u8.wrap (x + 97 - 65) = x + 97 - 65 := by rw [IntKind.wrap_u8]; omega
        gi_wp2
        have e : lowI x = x + 97 - 65 := by unfold lowI; rw [if_pos hup]; omega
        have hp := HP.out
        rw [e] at hp
        have ei : (i + 1).toNat = i.toNat + 1 := by omega
        refine ⟨⟨i + 1, rfl, by omega, by omega, ⟨by rw [ei]; exact hp⟩, ⟨HB.out.setCell (p := ⟨w.heap.size, i.toNat, none⟩) (Nat.le_refl _) _⟩⟩, ?_⟩
        show ((s.size : Int) - (i + 1)).toNat < ((s.size : Int) - i).toNat
        omega
      · have hsame : Aside0 (Conv wr w.heap.size (lowL ((bytesOf s).take (i.toNat + 1)) ++ (bytesOf s).drop (i.toNat + 1))) := ⟨by rw [HNO.out hup]; exact HC.out⟩
        by_cases hu : 65 ≤ x
        · have g1 : decide (65 ≤ x) = true := decide_eq_true hu
          have g2 : decide (x ≤ 90) = false := decide_eq_false (fun h => hup ⟨hu, h⟩)
          gi_wp2
          have ei : (i + 1).toNat = i.toNat + 1 := by omega
          refine ⟨⟨i + 1, rfl, by omega, by omega, ⟨by rw [ei]; exact hsame.out⟩, HB⟩, ?_⟩
          show ((s.size : Int) - (i + 1)).toNat < ((s.size : Int) - i).toNat
          omega
        · have g1 : decide (65 ≤ x) = false := decide_eq_false hu
          gi_wp2
          have ei : (i + 1).toNat = i.toNat + 1 := by omega
          refine ⟨⟨i + 1, rfl, by omega, by omega, ⟨by rw [ei]; exact hsame.out⟩, HB⟩, ?_⟩
          show ((s.size : Int) - (i + 1)).toNat < ((s.size : Int) - i).toNat
          omega
    · have hlt1 : decide (i < (s.size : Int)) = false := decide_eq_false hlt
      have hi : i.toNat = s.size := by omega
      have hcc := HC.out
      rw [hi, List.take_of_length_le (by omega), List.drop_eq_nil_of_le (by omega), List.append_nil] at hcc
      have hrd : ReadsInt wr .u8 (some ⟨w.heap.size, 0, none⟩) s.size (lowL (bytesOf s)) := ⟨by simp [lowL, hbl], by have := HL.out; omega, fun _ => ⟨_, rfl, fun j hj => by
        have e : (⟨w.heap.size, 0, none⟩ : Addr).add j = ⟨w.heap.size, j, none⟩ := by simp [Addr.add] <;> omega
        rw [e]; exact hcc.cell j (by simp [lowL, hbl]; omega)⟩⟩
      have hst : ∀ c, (convert 22 9 (.slice (some ⟨w.heap.size, 0, none⟩) s.size c)).run Try.prog wr = .ok (.string (strOfNums (lowL (bytesOf s)))) wr := fun c => string_of_reads (P := Try.prog) Try.underlying22 Try.underlying5 Try.underlying9 hrd
      clear hcc hrd hi hlen hbl
      gi_wp2
      go_ret
      exact ⟨rfl, HB.out⟩

theorem name_Lower.calls (a0 : ByteArray) (r : ByteArray) (w : World) (h : name_Lower.f a0 = some r) :
    Calls Try.prog 70 #[.string a0] w fun e w' => e = .returned (.string r) ∧ Below w.heap.size w w' := by
  unfold name_Lower.f at h
  by_cases hs : a0.size ≤ 100000000000
  · rw [if_pos hs] at h
    injection h with h
    subst h
    exact callsIn_wide.1 (name_Lower.in_ 1 (by omega) a0 hs w)
  · rw [if_neg hs] at h; cases h
end Go.Proofs.Ytjjbhpbmfpodeaa.X
end
section
namespace Go.Proofs.Ytjjbhpbmfpodeaa.X
open Go.RowKit Go.Proofs.YtjjbhpbmfpodeaaW.PrintWords Go.Proofs.YtjjbhpbmfpodeaaW.PrintLast Go.Proofs.YtjjbhpbmfpodeaaW.PrintMore
attribute [local go_sem] max2_int min2_int max_two min_two max_three min_three max_four min_four   -- for this text's walks alone
set_option linter.unusedVariables false
set_option linter.unusedSimpArgs false

/-! ### wire_Read: function 45 -/
mutual
def wire_Read.j0 : Nat → List Int → Int → Bool → Option (ByteArray × Int × Int × Int)
  | 0, _, _, _ => none
  | k + 1, x0, x1, x25 => if x25 = true then (some ((⟨#[]⟩ : ByteArray), 0, 5, 0)) else (wire_Read.l0 k x0 x1 ([] : List Int) x1 x1 (-1))
def wire_Read.l0 : Nat → List Int → Int → List Int → Int → Int → Int → Option (ByteArray × Int × Int × Int)
  | 0, _, _, _, _, _, _ => none
  | k + 1, x0, x1, x7, x8, x9, x10 => if x9 ≥ (x0.length : Int) then (some ((⟨#[]⟩ : ByteArray), 0, 4, (x0.length : Int))) else (if 0 ≤ x9 then (if x9 < (x0.length : Int) then (if (wrap64 (rd x0 x9)) = 0 then (if x10 < 0 then (if x7.length < 140737488355328 then (some (strOfNums (x7 ++ [0]), wrap64 (x9 + 1), 0, 0)) else (none)) else (if x7.length < 140737488355328 then (some (strOfNums (x7 ++ [0]), x10, 0, 0)) else (none))) else (if (wrap64 (rd x0 x9)) ≥ 192 then ((octet_Get16.f x0 x9).bind fun bt109 => (if bt109.2.2.1 = 0 then (if (Go.bits .and .i64 bt109.1 16383) ≥ x8 then (some ((⟨#[]⟩ : ByteArray), 0, 150, x9)) else (if x10 < 0 then (wire_Read.l0 k x0 x1 x7 (Go.bits .and .i64 bt109.1 16383) (Go.bits .and .i64 bt109.1 16383) bt109.2.1) else (wire_Read.l0 k x0 x1 x7 (Go.bits .and .i64 bt109.1 16383) (Go.bits .and .i64 bt109.1 16383) x10))) else (some ((⟨#[]⟩ : ByteArray), 0, bt109.2.2.1, bt109.2.2.2)))) else (if (wrap64 (rd x0 x9)) > 63 then (some ((⟨#[]⟩ : ByteArray), 0, 4, x9)) else ((octet_Bytes.f k x0 x9 (wrap64 ((wrap64 (rd x0 x9)) + 1))).bind fun bt114 => (if bt114.2.2.1 = 0 then (if x7.length + bt114.1.length < 140737488355328 then ((some (x7 ++ bt114.1 : List Int)).bind fun y121 => (if (y121.length : Int) > 254 then (some ((⟨#[]⟩ : ByteArray), 0, 3, x1)) else (wire_Read.l0 k x0 x1 y121 x8 bt114.2.1 x10))) else (none)) else (some ((⟨#[]⟩ : ByteArray), 0, bt114.2.2.1, bt114.2.2.2))))))) else (none)) else (none))
end
def wire_Read.f (k : Nat) (l0 : List Int) (a1 : Int) : Option (ByteArray × Int × Int × Int) := if a1 < 0 then (wire_Read.j0 k l0 a1 true) else (wire_Read.j0 k l0 a1 (decide (a1 > (l0.length : Int))))
theorem wire_Read.mono_l : ∀ k, (∀ y0 y1 y2, LeO (wire_Read.j0 k y0 y1 y2) (wire_Read.j0 (k + 1) y0 y1 y2)) ∧ (∀ y0 y1 y2 y3 y4 y5, LeO (wire_Read.l0 k y0 y1 y2 y3 y4 y5) (wire_Read.l0 (k + 1) y0 y1 y2 y3 y4 y5))
  | 0 => ⟨fun _ _ _ r h => by simp [wire_Read.j0] at h, fun _ _ _ _ _ _ r h => by simp [wire_Read.l0] at h⟩
  | k + 1 => by
    obtain ⟨ih0, ih1⟩ := wire_Read.mono_l k
    refine ⟨?_, ?_⟩
    · intro y0 y1 y2
      unfold wire_Read.j0
      repeat' first
      | (with_reducible exact ih0 _ _ _)
      | (with_reducible exact ih1 _ _ _ _ _ _)
      | (with_reducible exact octet_Bytes.mono _ _ _ _)
      | (with_reducible exact LeO.refl _)
      | (with_reducible exact LeO.none _)
      | (with_reducible refine LeO.ite ?_ ?_)
      | (with_reducible refine LeO.bind ?_ (fun _ => ?_))
      | exact ih0 _ _ _
      | exact ih1 _ _ _ _ _ _
      | exact octet_Bytes.mono _ _ _ _
      | exact LeO.none _
      | refine LeO.ite ?_ ?_
      | refine LeO.bind ?_ (fun _ => ?_)
    · intro y0 y1 y2 y3 y4 y5
      unfold wire_Read.l0
      repeat' first
      | (with_reducible exact ih0 _ _ _)
      | (with_reducible exact ih1 _ _ _ _ _ _)
      | (with_reducible exact octet_Bytes.mono _ _ _ _)
      | (with_reducible exact LeO.refl _)
      | (with_reducible exact LeO.none _)
      | (with_reducible refine LeO.ite ?_ ?_)
      | (with_reducible refine LeO.bind ?_ (fun _ => ?_))
      | exact ih0 _ _ _
      | exact ih1 _ _ _ _ _ _
      | exact octet_Bytes.mono _ _ _ _
      | exact LeO.none _
      | refine LeO.ite ?_ ?_
      | refine LeO.bind ?_ (fun _ => ?_)
theorem wire_Read.mono : ∀ a0 a1 k, LeO (wire_Read.f k a0 a1) (wire_Read.f (k + 1) a0 a1) := by
  intro a0 a1 k
  obtain ⟨ih0, ih1⟩ := wire_Read.mono_l k
  unfold wire_Read.f
  repeat' first
      | (with_reducible exact ih0 _ _ _)
      | (with_reducible exact ih1 _ _ _ _ _ _)
      | (with_reducible exact octet_Bytes.mono _ _ _ _)
      | (with_reducible exact LeO.refl _)
      | (with_reducible exact LeO.none _)
      | (with_reducible refine LeO.ite ?_ ?_)
      | (with_reducible refine LeO.bind ?_ (fun _ => ?_))
      | exact ih0 _ _ _
      | exact ih1 _ _ _ _ _ _
      | exact octet_Bytes.mono _ _ _ _
      | exact LeO.none _
      | refine LeO.ite ?_ ?_
      | refine LeO.bind ?_ (fun _ => ?_)
set_option maxHeartbeats 8000000 in
set_option maxRecDepth 100000 in
theorem wire_Read.calls (k : Nat) (A0 : Option Addr) (c0 : Nat) (l0 : List Int) (a1 : Int) (r1 : ByteArray) (r2 : Int) (r3 : Int) (r4 : Int) (w : World) (hr0 : Kd.C (Kd.int .u8) w A0 l0.length l0) (hc0 : l0.length ≤ c0) (h : wire_Read.f k l0 a1 = some (r1, r2, r3, r4)) :
    Calls Try.prog 45 #[.slice A0 l0.length c0, .int .i64 a1] w fun e w' => e = .returned (.tuple #[.string r1, .int .i64 r2, .agg #[.int .i64 r3, .int .i64 r4]]) ∧ Below w.heap.size w w' := by
  have hu31 := Try.underlying31
  have HR0 := Aside0.mk hr0
  have HC0 := Aside0.mk hc0
  clear hr0 hc0
  have HB := Aside0.mk (Below.refl w.heap.size w)
  have H : (if a1 < 0 then (wire_Read.j0 k l0 a1 true) else (wire_Read.j0 k l0 a1 (decide (a1 > (l0.length : Int))))) = some (r1, r2, r3, r4) := h
  clear h
  have HC3 := Aside0.mk H
  clear H
  go_enter Try.func45, Try.ntmps45
  go_wp2_with (first | ((with_reducible refine gate_dst (N := 6) rfl ?_); (try (refine gate_guard (by rfl) ?_; dsimp only)); refine box_event ?hg (N := 6) ?hd (cs := #[.int .i64 0, .int .i64 0]) (t := 31) ?hr ?_; (case hd => rfl); (case hg => rfl); (case hr => first | (go_simp; done) | (go_simp; rfl)); intro gb101 hg w4 hbox hb; have n0_ := Aside0.mk (below_step (by repeat (first | (with_reducible first | exact HB.out | apply below_alloc | apply pw_below_drewN | apply below_drew1) | exact HB.out)) hb); have n1_ := Aside0.mk (hbox); have n2_ := Aside0.mk ((by rw [hg]; exact (below_size (by repeat (first | (with_reducible first | exact HB.out | apply below_alloc | apply pw_below_drewN | apply below_drew1) | exact HB.out))) : w.heap.size ≤ gb101)); have n3_ := Aside0.mk ((by rw [hg]; exact (below_size (by repeat (first | (with_reducible first | exact HB.out | apply below_alloc | apply pw_below_drewN | apply below_drew1) | exact HB.out))) : w.heap.size ≤ gb101)); clear HB; have HB := n0_; have BK101 := n1_; have GW101 := n2_; have GE101 := n3_; clear n0_ n1_ n2_ n3_; clear hb hbox hg))
  go_step3
  go_upto_region 1 with (fail)
  (try simp only [Act.put, List.setIfInBounds_toArray, List.set_cons_zero, List.set_cons_succ])
  go_cut [25] (fun v25 wc => ∃ (kq : Nat) (x25_2 : Bool), v25 = .bool x25_2 ∧ Aside0 (wire_Read.j0 kq l0 a1 x25_2 = some (r1, r2, r3, r4)) ∧ Aside0 (kq ≤ k) ∧ Aside0 (wc.heap[gb101]? = some (.cells #[.int .i64 0, .int .i64 0] 31 (0, 0))) ∧ Aside0 (Below w.heap.size w wc))
  case first =>
    have H := HC3.out
    clear HC3
    by_cases c5 : a1 < 0
    · rw [if_pos c5] at H
      have c5b0 : decide (a1 < 0) = true := decide_eq_true c5
      clear c5
      (first | rw [c5b0] | (simp only [i64_w, i32_w]; rw [c5b0]) | skip)
      have H' := Aside0.mk H
      clear H
      go_wp2
      go_meet
      case rel => exact ⟨_, (true), (by first | rfl | (simp; done) | (simp [*]; done)), H', ⟨by first | omega | exact Nat.le_refl _⟩, ⟨by (with_reducible repeat (first | refine blk_drewN ?_ _ | refine blk_drew ?_ | refine blk_alloc ?_ _)); exact BK101.out⟩, ⟨by repeat (first | (with_reducible first | exact HB.out | apply below_alloc | apply pw_below_drewN | apply below_drew1 | refine below_set ?_ GE101.out) | exact HB.out)⟩⟩
    · rw [if_neg c5] at H
      have c5b0 : decide (a1 < 0) = false := decide_eq_false c5
      clear c5
      (first | rw [c5b0] | (simp only [i64_w, i32_w]; rw [c5b0]) | skip)
      have H' := Aside0.mk H
      clear H
      go_wp2
      go_meet
      case rel => exact ⟨_, (decide (a1 > (l0.length : Int))), (by first | rfl | (simp; done) | (simp [*]; done)), H', ⟨by first | omega | exact Nat.le_refl _⟩, ⟨by (with_reducible repeat (first | refine blk_drewN ?_ _ | refine blk_drew ?_ | refine blk_alloc ?_ _)); exact BK101.out⟩, ⟨by repeat (first | (with_reducible first | exact HB.out | apply below_alloc | apply pw_below_drewN | apply below_drew1 | refine below_set ?_ GE101.out) | exact HB.out)⟩⟩
  case rest =>
    clear HC3
    try clear p2
    try clear c4
    try clear c5
    try clear c5b0
    obtain ⟨kq, x25_2, rfl, HA, HJ2, BK101, HB⟩ := hcut
    cases kq with
    | zero => exact absurd HA.out (by simp [wire_Read.j0])
    | succ kj2 =>
      have H := HA.out
      clear HA
      simp only [wire_Read.j0] at H
      by_cases c6 : x25_2 = true
      · subst c6
        have H1 : (some ((⟨#[]⟩ : ByteArray), 0, 5, 0)) = some (r1, r2, r3, r4) := by rw [if_pos rfl] at H; exact H
        clear H
        have H := H1
        clear H1
        simp only [Option.some.injEq, Prod.mk.injEq] at H
        obtain ⟨rfl, rfl, rfl, rfl⟩ := H
        have hcz7_0 : wc.cell? ⟨gb101, 0, none⟩ = some (.int .i64 0) := (blk_cell BK101.out 0).trans rfl
        have hcz7_1 : wc.cell? ⟨gb101, 1, none⟩ = some (.int .i64 0) := (blk_cell BK101.out 1).trans rfl
        have hfz7_0 := blk_frozen BK101.out 0
        have hfz7_1 := blk_frozen BK101.out 1
        go_wp2
        (try rw [Exit.noGoto_ret])
        refine bodyPost_ret (results_list (rs := [.tmp 4, .tmp 5, .cell 6 31]) rfl (by simp) (.tmp (.tmp (.cell gb101 31 #[.int .i64 5, .int .i64 0] (0, 0) _ rfl (by (with_reducible repeat (first | refine blk_drewN ?_ _ | refine blk_drew ?_ | refine blk_alloc ?_ _)); refine blk_put (cs := #[.int .i64 5, .int .i64 0]) ?_ 1 _ rfl; (with_reducible repeat (first | refine blk_drewN ?_ _ | refine blk_drew ?_ | refine blk_alloc ?_ _)); refine blk_put (cs := #[.int .i64 0, .int .i64 0]) ?_ 0 _ rfl; (with_reducible repeat (first | refine blk_drewN ?_ _ | refine blk_drew ?_ | refine blk_alloc ?_ _)); exact BK101.out) Try.underlying31 rfl (by kernel_rfl) .nil)))) rfl ?_
        exact ⟨by first | rfl | (simp [errW_none, errW_some] <;> rfl) | (simp [*, errW_none, errW_some] <;> rfl), by repeat (first | (with_reducible first | exact HB.out | apply below_alloc | apply pw_below_drewN | apply below_drew1 | refine below_set ?_ GE101.out) | exact HB.out)⟩
      · replace c6 := Bool.eq_false_iff.mpr c6
        subst c6
        have H1 : (wire_Read.l0 kj2 l0 a1 ([] : List Int) a1 a1 (-1)) = some (r1, r2, r3, r4) := by rw [if_neg (show ¬ (false = true) by decide)] at H; exact H
        clear H
        have H := H1
        clear H1
        have H' := Aside0.mk H
        clear H
        go_wp2
        go_step3
        go_wp2
        go_loopg [7, 8, 9, 10] kj2 (fun kq v7 v8 v9 v10 w' => ∃ (x7_2 : List Int) (x8_2 : Int) (x9_2 : Int) (x10_2 : Int) (x102000_2 : Int) (x102001_2 : Int), v8 = .int .i64 x8_2 ∧ v9 = .int .i64 x9_2 ∧ v10 = .int .i64 x10_2 ∧ Aside0 (wire_Read.l0 kq l0 a1 x7_2 x8_2 x9_2 x10_2 = some (r1, r2, r3, r4)) ∧ Aside0 (kq ≤ kj2) ∧ Aside0 (Kd.R (Kd.int .u8) 5 w' w.heap.size (fun _ => True) v7 x7_2) ∧ Aside0 (w'.heap[gb101]? = some (.cells #[.int .i64 x102000_2, .int .i64 x102001_2] 31 (0, 0))) ∧ Aside0 (Below w.heap.size w w'))
        case atStart => exact ⟨(([] : List Int)), (a1), (a1), ((-1)), (0), (0), (by first | rfl | (simp; done) | (simp [*]; done)), (by first | rfl | (simp; done) | (simp [*]; done)), (by first | rfl | (simp; done) | (simp [*]; done)), H', ⟨Nat.le_refl _⟩, ⟨by first | exact Kd.R_nil _ _ _ _ _ | exact Kd.N_nil _ _ _ _ _ | exact Kd.V_nil _ _ _ _ _ | exact Kd.Q_nil _ _ _ _ _ | exact Kd.S_nil _ _ _ _ _⟩, ⟨by (with_reducible repeat (first | refine blk_drewN ?_ _ | refine blk_drew ?_ | refine blk_alloc ?_ _)); exact BK101.out⟩, ⟨by repeat (first | (with_reducible first | exact HB.out | apply below_alloc | apply pw_below_drewN | apply below_drew1 | refine below_set ?_ GE101.out) | exact HB.out)⟩⟩
        case round =>
          clear H'
          try clear p2
          try clear c4
          try clear c5
          try clear c5b0
          try clear c6
          try clear hcz7_0
          try clear hcz7_1
          try clear hfz7_0
          try clear hfz7_1
          try clear p2
          obtain ⟨x7_2, x8_2, x9_2, x10_2, x102000_2, x102001_2, rfl, rfl, rfl, HA, HK2, HO_7, BK101, HB⟩ := hrel
          cases gk with
          | zero => exact absurd HA.out (by simp [wire_Read.l0])
          | succ k2 =>
            have H := HA.out
            clear HA
            simp only [wire_Read.l0] at H
            by_cases c8 : x9_2 ≥ (l0.length : Int)
            · rw [if_pos c8] at H
              have c8b0 : decide ((l0.length : Int) ≤ x9_2) = true := decide_eq_true c8
              clear c8
              simp only [Option.some.injEq, Prod.mk.injEq] at H
              obtain ⟨rfl, rfl, rfl, rfl⟩ := H
              have hcz9_0 : wr.cell? ⟨gb101, 0, none⟩ = some (.int .i64 x102000_2) := (blk_cell BK101.out 0).trans rfl
              have hcz9_1 : wr.cell? ⟨gb101, 1, none⟩ = some (.int .i64 x102001_2) := (blk_cell BK101.out 1).trans rfl
              have hfz9_0 := blk_frozen BK101.out 0
              have hfz9_1 := blk_frozen BK101.out 1
              go_wp2
              (try rw [Exit.noGoto_ret])
              refine bodyPost_ret (results_list (rs := [.tmp 4, .tmp 5, .cell 6 31]) rfl (by simp) (.tmp (.tmp (.cell gb101 31 #[.int .i64 4, .int .i64 (l0.length : Int)] (0, 0) _ rfl (by (with_reducible repeat (first | refine blk_drewN ?_ _ | refine blk_drew ?_ | refine blk_alloc ?_ _)); refine blk_put (cs := #[.int .i64 4, .int .i64 x102001_2]) ?_ 1 _ rfl; (with_reducible repeat (first | refine blk_drewN ?_ _ | refine blk_drew ?_ | refine blk_alloc ?_ _)); refine blk_put (cs := #[.int .i64 x102000_2, .int .i64 x102001_2]) ?_ 0 _ rfl; (with_reducible repeat (first | refine blk_drewN ?_ _ | refine blk_drew ?_ | refine blk_alloc ?_ _)); exact BK101.out) Try.underlying31 rfl (by kernel_rfl) .nil)))) rfl ?_
              exact ⟨by first | rfl | (simp [errW_none, errW_some] <;> rfl) | (simp [*, errW_none, errW_some] <;> rfl), by repeat (first | (with_reducible first | exact HB.out | apply below_alloc | apply pw_below_drewN | apply below_drew1 | refine below_set ?_ GE101.out) | exact HB.out)⟩
            · rw [if_neg c8] at H
              have c8b0 : decide ((l0.length : Int) ≤ x9_2) = false := decide_eq_false c8
              clear c8
              by_cases c10 : 0 ≤ x9_2
              · rw [if_pos c10] at H
                have c10b0 : decide (0 ≤ x9_2) = true := decide_eq_true c10
                clear c10
                by_cases c11 : x9_2 < (l0.length : Int)
                · rw [if_pos c11] at H
                  have c11b0 : decide (x9_2 < (l0.length : Int)) = true := decide_eq_true c11
                  clear c11
                  by_cases c12 : (wrap64 (rd l0 x9_2)) = 0
                  · rw [if_pos c12] at H
                    have c12b0 : ((wrap64 (rd l0 x9_2)) == 0) = true := beq_iff_eq.mpr c12
                    have c12b1 : ((wrap64 (rd l0 x9_2)) != 0) = false := bne_eq_false_iff_eq.mpr c12
                    clear c12
                    by_cases c13 : x10_2 < 0
                    · rw [if_pos c13] at H
                      have c13b0 : decide (x10_2 < 0) = true := decide_eq_true c13
                      clear c13
                      by_cases c14 : x7_2.length < 140737488355328
                      · rw [if_pos c14] at H
                        have LMc14 := Aside0.mk c14
                        clear c14
                        obtain ⟨y103, hy103⟩ : ∃ y_ : List Int, y_ = (x7_2 ++ [0]) := ⟨_, rfl⟩
                        replace H : (some (strOfNums y103, wrap64 (x9_2 + 1), 0, 0)) = some (r1, r2, r3, r4) := by first | (rw [hy103]; with_reducible exact H) | (have H2_ := (Option.bind_some _ _).symm.trans H; rw [hy103]; with_reducible exact H2_) | (have H2_ := (Option.bind_some _ _).symm.trans H; with_reducible exact H2_) | with_reducible exact H | (rw [hy103]; exact H) | exact H
                        have Ny103 := Aside0.mk hy103
                        clear hy103
                        simp only [Option.some.injEq, Prod.mk.injEq] at H
                        obtain ⟨rfl, rfl, rfl, rfl⟩ := H
                        have p102 : 0 ≤ (x9_2 : Int) := of_decide_eq_true (by first | (with_reducible assumption) | assumption)
                        have q102 : x9_2 < (l0.length : Int) := of_decide_eq_true (by first | (with_reducible assumption) | assumption)
                        obtain ⟨ad102, e102, hx102_0⟩ := Kd.at_int HR0.out x9_2 p102 q102
                        cases e102
                        replace hx102_0 := (HB.out.cell (World.block_lt_of_cell? w _ hx102_0)).trans hx102_0
                        replace p102 := eq_true p102
                        replace q102 := eq_true q102
                        go_wp2_with (first | ((with_reducible refine gate_builtin (b := .append) (xs := #[.tmp 101, .tmp 102]) rfl ?_); (try (refine gate_guard (by rfl) ?_; dsimp only)); at_builtin; refine Kd.R_append (Kd.int .u8) (w0 := w) w.heap.size rfl (.tmp 101) (.tmp 102) 22 5 (.int .u8 0) 1 rfl Try.underlying22 info5 rfl (by decide) (by omega) u7 x7_2 0 [.int .u8 0] (fun _ => True) (fun _ => False) rfl rfl ?aP (fun _ hk => hk.elim) ?aF ?aO ?aB ?aS ?aL ?_; (case aP => exact rfl); (case aB => exact (by repeat (first | (with_reducible first | exact HB.out | apply below_alloc | apply pw_below_drewN | apply below_drew1 | refine below_set ?_ GE101.out) | exact HB.out))); (case aF => exact (fun _ _ => trivial)); (case aO => exact (by (with_reducible repeat (first | apply Kd.R_alloc | apply Kd.R_drewN | apply Kd.R_drew)); exact HO_7.out)); (case aS => exact (below_size (by repeat (first | (with_reducible first | exact HB.out | apply below_alloc | apply pw_below_drewN | apply below_drew1 | refine below_set ?_ GE101.out) | exact HB.out)))); (case aL => have := LMc14.out; omega); intro v104 w15 ho hb hg hat; rw [← Ny103.out] at ho; have n0_ := Aside0.mk (blk_grown (g := gb101) (o := .cells #[.int .i64 x102000_2, .int .i64 x102001_2] 31 (0, 0)) (by (with_reducible repeat (first | refine blk_drewN ?_ _ | refine blk_drew ?_ | refine blk_alloc ?_ _)); exact BK101.out) hg (Kd.R_ne HO_7.out BK101.out (by decide))); have n1_ := Aside0.mk (hb); have n2_ := Aside0.mk (ho); clear BK101; clear HB; clear HO_7; have BK101 := n0_; have HB := n1_; have HO105 := n2_; clear n0_ n1_ n2_; clear ho hb hg hat; have hcv16 := own_string (P := Try.prog) Try.underlying22 Try.underlying5 Try.underlying9 (Kd.own_of_R HO105.out); have hcz17_0 : w15.cell? ⟨gb101, 0, none⟩ = some (.int .i64 x102000_2) := (blk_cell BK101.out 0).trans rfl; have hcz17_1 : w15.cell? ⟨gb101, 1, none⟩ = some (.int .i64 x102001_2) := (blk_cell BK101.out 1).trans rfl; have hfz17_0 := blk_frozen BK101.out 0; have hfz17_1 := blk_frozen BK101.out 1))
                        (try rw [Exit.noGoto_ret])
                        refine bodyPost_ret (results_list (rs := [.tmp 4, .tmp 5, .cell 6 31]) rfl (by simp) (.tmp (.tmp (.cell gb101 31 #[.int .i64 0, .int .i64 0] (0, 0) _ rfl (by (with_reducible repeat (first | refine blk_drewN ?_ _ | refine blk_drew ?_ | refine blk_alloc ?_ _)); refine blk_put (cs := #[.int .i64 0, .int .i64 x102001_2]) ?_ 1 _ rfl; (with_reducible repeat (first | refine blk_drewN ?_ _ | refine blk_drew ?_ | refine blk_alloc ?_ _)); refine blk_put (cs := #[.int .i64 x102000_2, .int .i64 x102001_2]) ?_ 0 _ rfl; (with_reducible repeat (first | refine blk_drewN ?_ _ | refine blk_drew ?_ | refine blk_alloc ?_ _)); exact BK101.out) Try.underlying31 rfl (by kernel_rfl) .nil)))) rfl ?_
                        exact ⟨by first | rfl | (simp [errW_none, errW_some] <;> rfl) | (simp [*, errW_none, errW_some] <;> rfl), by repeat (first | (with_reducible first | exact HB.out | apply below_alloc | apply pw_below_drewN | apply below_drew1 | refine below_set ?_ GE101.out) | exact HB.out)⟩
                      · rw [if_neg c14] at H
                        exact absurd H (by simp)
                    · rw [if_neg c13] at H
                      have c13b0 : decide (x10_2 < 0) = false := decide_eq_false c13
                      clear c13
                      by_cases c18 : x7_2.length < 140737488355328
                      · rw [if_pos c18] at H
                        have LMc18 := Aside0.mk c18
                        clear c18
                        obtain ⟨y106, hy106⟩ : ∃ y_ : List Int, y_ = (x7_2 ++ [0]) := ⟨_, rfl⟩
                        replace H : (some (strOfNums y106, x10_2, 0, 0)) = some (r1, r2, r3, r4) := by first | (rw [hy106]; with_reducible exact H) | (have H2_ := (Option.bind_some _ _).symm.trans H; rw [hy106]; with_reducible exact H2_) | (have H2_ := (Option.bind_some _ _).symm.trans H; with_reducible exact H2_) | with_reducible exact H | (rw [hy106]; exact H) | exact H
                        have Ny106 := Aside0.mk hy106
                        clear hy106
                        simp only [Option.some.injEq, Prod.mk.injEq] at H
                        obtain ⟨rfl, rfl, rfl, rfl⟩ := H
                        have p102 : 0 ≤ (x9_2 : Int) := of_decide_eq_true (by first | (with_reducible assumption) | assumption)
                        have q102 : x9_2 < (l0.length : Int) := of_decide_eq_true (by first | (with_reducible assumption) | assumption)
                        obtain ⟨ad102, e102, hx102_0⟩ := Kd.at_int HR0.out x9_2 p102 q102
                        cases e102
                        replace hx102_0 := (HB.out.cell (World.block_lt_of_cell? w _ hx102_0)).trans hx102_0
                        replace p102 := eq_true p102
                        replace q102 := eq_true q102
                        go_wp2_with (first | ((with_reducible refine gate_builtin (b := .append) (xs := #[.tmp 101, .tmp 102]) rfl ?_); (try (refine gate_guard (by rfl) ?_; dsimp only)); at_builtin; refine Kd.R_append (Kd.int .u8) (w0 := w) w.heap.size rfl (.tmp 101) (.tmp 102) 22 5 (.int .u8 0) 1 rfl Try.underlying22 info5 rfl (by decide) (by omega) u7 x7_2 0 [.int .u8 0] (fun _ => True) (fun _ => False) rfl rfl ?aP (fun _ hk => hk.elim) ?aF ?aO ?aB ?aS ?aL ?_; (case aP => exact rfl); (case aB => exact (by repeat (first | (with_reducible first | exact HB.out | apply below_alloc | apply pw_below_drewN | apply below_drew1 | refine below_set ?_ GE101.out) | exact HB.out))); (case aF => exact (fun _ _ => trivial)); (case aO => exact (by (with_reducible repeat (first | apply Kd.R_alloc | apply Kd.R_drewN | apply Kd.R_drew)); exact HO_7.out)); (case aS => exact (below_size (by repeat (first | (with_reducible first | exact HB.out | apply below_alloc | apply pw_below_drewN | apply below_drew1 | refine below_set ?_ GE101.out) | exact HB.out)))); (case aL => have := LMc18.out; omega); intro v107 w19 ho hb hg hat; rw [← Ny106.out] at ho; have n0_ := Aside0.mk (blk_grown (g := gb101) (o := .cells #[.int .i64 x102000_2, .int .i64 x102001_2] 31 (0, 0)) (by (with_reducible repeat (first | refine blk_drewN ?_ _ | refine blk_drew ?_ | refine blk_alloc ?_ _)); exact BK101.out) hg (Kd.R_ne HO_7.out BK101.out (by decide))); have n1_ := Aside0.mk (hb); have n2_ := Aside0.mk (ho); clear BK101; clear HB; clear HO_7; have BK101 := n0_; have HB := n1_; have HO108 := n2_; clear n0_ n1_ n2_; clear ho hb hg hat; have hcv20 := own_string (P := Try.prog) Try.underlying22 Try.underlying5 Try.underlying9 (Kd.own_of_R HO108.out); have hcz21_0 : w19.cell? ⟨gb101, 0, none⟩ = some (.int .i64 x102000_2) := (blk_cell BK101.out 0).trans rfl; have hcz21_1 : w19.cell? ⟨gb101, 1, none⟩ = some (.int .i64 x102001_2) := (blk_cell BK101.out 1).trans rfl; have hfz21_0 := blk_frozen BK101.out 0; have hfz21_1 := blk_frozen BK101.out 1))
                        (try rw [Exit.noGoto_ret])
                        refine bodyPost_ret (results_list (rs := [.tmp 4, .tmp 5, .cell 6 31]) rfl (by simp) (.tmp (.tmp (.cell gb101 31 #[.int .i64 0, .int .i64 0] (0, 0) _ rfl (by (with_reducible repeat (first | refine blk_drewN ?_ _ | refine blk_drew ?_ | refine blk_alloc ?_ _)); refine blk_put (cs := #[.int .i64 0, .int .i64 x102001_2]) ?_ 1 _ rfl; (with_reducible repeat (first | refine blk_drewN ?_ _ | refine blk_drew ?_ | refine blk_alloc ?_ _)); refine blk_put (cs := #[.int .i64 x102000_2, .int .i64 x102001_2]) ?_ 0 _ rfl; (with_reducible repeat (first | refine blk_drewN ?_ _ | refine blk_drew ?_ | refine blk_alloc ?_ _)); exact BK101.out) Try.underlying31 rfl (by kernel_rfl) .nil)))) rfl ?_
                        exact ⟨by first | rfl | (simp [errW_none, errW_some] <;> rfl) | (simp [*, errW_none, errW_some] <;> rfl), by repeat (first | (with_reducible first | exact HB.out | apply below_alloc | apply pw_below_drewN | apply below_drew1 | refine below_set ?_ GE101.out) | exact HB.out)⟩
                      · rw [if_neg c18] at H
                        exact absurd H (by simp)
                  · rw [if_neg c12] at H
                    have c12b0 : ((wrap64 (rd l0 x9_2)) == 0) = false := beq_eq_false_iff_ne.mpr c12
                    have c12b1 : ((wrap64 (rd l0 x9_2)) != 0) = true := bne_iff_ne.mpr c12
                    by_cases c22 : (wrap64 (rd l0 x9_2)) ≥ 192
                    · rw [if_pos c22] at H
                      have c22b0 : decide (192 ≤ (wrap64 (rd l0 x9_2))) = true := decide_eq_true c22
                      clear c22
                      replace H := Option.bind_eq_some_iff.mp H
                      obtain ⟨⟨t109, t110, t111, t112⟩, A230, H⟩ := H
                      replace H : (if t111 = 0 then (if (Go.bits .and .i64 t109 16383) ≥ x8_2 then (some ((⟨#[]⟩ : ByteArray), 0, 150, x9_2)) else (if x10_2 < 0 then (wire_Read.l0 k2 l0 a1 x7_2 (Go.bits .and .i64 t109 16383) (Go.bits .and .i64 t109 16383) t110) else (wire_Read.l0 k2 l0 a1 x7_2 (Go.bits .and .i64 t109 16383) (Go.bits .and .i64 t109 16383) x10_2))) else (some ((⟨#[]⟩ : ByteArray), 0, t111, t112))) = some (r1, r2, r3, r4) := H
                      have A23 := Aside0.mk A230
                      clear A230
                      by_cases c24 : t111 = 0
                      · rw [if_pos c24] at H
                        have c24b0 : (t111 == 0) = true := beq_iff_eq.mpr c24
                        have c24b1 : (t111 != 0) = false := bne_eq_false_iff_eq.mpr c24
                        clear c24
                        by_cases c25 : (Go.bits .and .i64 t109 16383) ≥ x8_2
                        · rw [if_pos c25] at H
                          have c25b0 : decide (x8_2 ≤ (Go.bits .and .i64 t109 16383)) = true := decide_eq_true c25
                          clear c25
                          simp only [Option.some.injEq, Prod.mk.injEq] at H
                          obtain ⟨rfl, rfl, rfl, rfl⟩ := H
                          have p102 : 0 ≤ (x9_2 : Int) := of_decide_eq_true (by first | (with_reducible assumption) | assumption)
                          have q102 : x9_2 < (l0.length : Int) := of_decide_eq_true (by first | (with_reducible assumption) | assumption)
                          obtain ⟨ad102, e102, hx102_0⟩ := Kd.at_int HR0.out x9_2 p102 q102
                          cases e102
                          replace hx102_0 := (HB.out.cell (World.block_lt_of_cell? w _ hx102_0)).trans hx102_0
                          replace p102 := eq_true p102
                          replace q102 := eq_true q102
                          go_wp2_with (first | ((with_reducible refine gate_callee (f := 35) rfl ?_); refine goesL_ (some 76) rfl rfl Try.func35 (by kernel_rfl) rfl #[.slice (some ad102) l0.length c0, .int .i64 x9_2] rfl (by (try simp only [List.map_toArray, List.map_cons, List.map_nil]); first | done | rfl | (simp only [List.length_drop, List.length_take]; rfl)) ?_; (with_reducible refine (octet_Get16.calls _ _ l0 x9_2 t109 t110 t111 t112 _ ?side1 ?side2 A23.out).mono ?_); (case side1 => repeat (first | exact (Kd.C_below HR0.out HB.out) | (with_reducible refine Kd.C_alloc ?_ _) | (with_reducible refine Kd.C_drewN ?_ _) | (with_reducible refine Kd.C_drew ?_))); (case side2 => exact HC0.out); rintro e w26 ⟨rfl, hb⟩; refine ⟨_, rfl, ?_⟩; have n0_ := Aside0.mk (Kd.R_below (by (with_reducible repeat (first | apply Kd.R_alloc | apply Kd.R_drewN | apply Kd.R_drew)); exact HO_7.out) hb); have n1_ := Aside0.mk (blk_below (g := gb101) (o := .cells #[.int .i64 x102000_2, .int .i64 x102001_2] 31 (0, 0)) (by (with_reducible repeat (first | refine blk_drewN ?_ _ | refine blk_drew ?_ | refine blk_alloc ?_ _)); exact BK101.out) hb); have n2_ := Aside0.mk (below_step (by repeat (first | (with_reducible first | exact HB.out | apply below_alloc | apply pw_below_drewN | apply below_drew1 | refine below_set ?_ GE101.out) | exact HB.out)) hb); clear HO_7; clear BK101; clear HB; have HO_7 := n0_; have BK101 := n1_; have HB := n2_; clear n0_ n1_ n2_; (try clear hb); (try clear hb2); (try clear hk); (try clear hi)) | ((with_reducible refine gate_dst (N := 14) rfl ?_); (try (refine gate_guard (by rfl) ?_; dsimp only)); refine box_event ?hg (N := 14) ?hd (cs := #[.int .i64 0, .int .i64 0]) (t := 31) ?hr ?_; (case hd => rfl); (case hg => rfl); (case hr => first | (go_simp; done) | (go_simp; rfl)); intro gb113 hg w27 hbox hb; have n0_ := Aside0.mk (Kd.R_below (by (with_reducible repeat (first | apply Kd.R_alloc | apply Kd.R_drewN | apply Kd.R_drew)); exact HO_7.out) hb); have n1_ := Aside0.mk (blk_below (g := gb101) (o := .cells #[.int .i64 x102000_2, .int .i64 x102001_2] 31 (0, 0)) (by (with_reducible repeat (first | refine blk_drewN ?_ _ | refine blk_drew ?_ | refine blk_alloc ?_ _)); exact BK101.out) hb); have n2_ := Aside0.mk (below_step (by repeat (first | (with_reducible first | exact HB.out | apply below_alloc | apply pw_below_drewN | apply below_drew1 | refine below_set ?_ GE101.out) | exact HB.out)) hb); have n3_ := Aside0.mk (hbox); have n4_ := Aside0.mk ((by rw [hg]; exact (below_size (by repeat (first | (with_reducible first | exact HB.out | apply below_alloc | apply pw_below_drewN | apply below_drew1 | refine below_set ?_ GE101.out) | exact HB.out))) : w.heap.size ≤ gb113)); have n5_ := Aside0.mk ((by rw [hg]; exact (below_size (by repeat (first | (with_reducible first | exact HB.out | apply below_alloc | apply pw_below_drewN | apply below_drew1 | refine below_set ?_ GE101.out) | exact HB.out))) : w.heap.size ≤ gb113)); have n6_ := Aside0.mk ((by rw [hg]; exact Nat.ne_of_lt (blk_lt (g := gb101) (o := .cells #[.int .i64 x102000_2, .int .i64 x102001_2] 31 (0, 0)) (by (with_reducible repeat (first | refine blk_drewN ?_ _ | refine blk_drew ?_ | refine blk_alloc ?_ _)); exact BK101.out)) : gb101 ≠ gb113)); have n7_ := Aside0.mk ((by rw [hg]; exact Nat.ne_of_gt (blk_lt (g := gb101) (o := .cells #[.int .i64 x102000_2, .int .i64 x102001_2] 31 (0, 0)) (by (with_reducible repeat (first | refine blk_drewN ?_ _ | refine blk_drew ?_ | refine blk_alloc ?_ _)); exact BK101.out)) : gb113 ≠ gb101)); clear HO_7; clear BK101; clear HB; have HO_7 := n0_; have BK101 := n1_; have HB := n2_; have BK113 := n3_; have GW113 := n4_; have GE113 := n5_; have NB101_113 := n6_; have NB113_101 := n7_; clear n0_ n1_ n2_ n3_ n4_ n5_ n6_ n7_; clear hb hbox hg; have hnb28 := NB113_101.out; have hnc28 := NB101_113.out; have hcz29_0 : w27.cell? ⟨gb113, 0, none⟩ = some (.int .i64 0) := (blk_cell BK113.out 0).trans rfl; have hcz29_1 : w27.cell? ⟨gb113, 1, none⟩ = some (.int .i64 0) := (blk_cell BK113.out 1).trans rfl; have hfz29_0 := blk_frozen BK113.out 0; have hfz29_1 := blk_frozen BK113.out 1; have hcz30_0 : w27.cell? ⟨gb101, 0, none⟩ = some (.int .i64 x102000_2) := (blk_cell BK101.out 0).trans rfl; have hcz30_1 : w27.cell? ⟨gb101, 1, none⟩ = some (.int .i64 x102001_2) := (blk_cell BK101.out 1).trans rfl; have hfz30_0 := blk_frozen BK101.out 0; have hfz30_1 := blk_frozen BK101.out 1))
                          (try rw [Exit.noGoto_ret])
                          refine bodyPost_ret (results_list (rs := [.tmp 4, .tmp 5, .cell 6 31]) rfl (by simp) (.tmp (.tmp (.cell gb101 31 #[.int .i64 150, .int .i64 x9_2] (0, 0) _ rfl (by (with_reducible repeat (first | refine blk_drewN ?_ _ | refine blk_drew ?_ | refine blk_alloc ?_ _)); refine blk_put (cs := #[.int .i64 150, .int .i64 x102001_2]) ?_ 1 _ rfl; (with_reducible repeat (first | refine blk_drewN ?_ _ | refine blk_drew ?_ | refine blk_alloc ?_ _)); refine blk_put (cs := #[.int .i64 x102000_2, .int .i64 x102001_2]) ?_ 0 _ rfl; (with_reducible repeat (first | refine blk_drewN ?_ _ | refine blk_drew ?_ | refine blk_alloc ?_ _)); refine blk_far ?_ NB101_113.out _; (with_reducible repeat (first | refine blk_drewN ?_ _ | refine blk_drew ?_ | refine blk_alloc ?_ _)); refine blk_far ?_ NB101_113.out _; (with_reducible repeat (first | refine blk_drewN ?_ _ | refine blk_drew ?_ | refine blk_alloc ?_ _)); exact BK101.out) Try.underlying31 rfl (by kernel_rfl) .nil)))) rfl ?_
                          exact ⟨by first | rfl | (simp [errW_none, errW_some] <;> rfl) | (simp [*, errW_none, errW_some] <;> rfl), by repeat (first | (with_reducible first | exact HB.out | apply below_alloc | apply pw_below_drewN | apply below_drew1 | refine below_set ?_ GE101.out | refine below_set ?_ GE113.out) | exact HB.out)⟩
                        · rw [if_neg c25] at H
                          have c25b0 : decide (x8_2 ≤ (Go.bits .and .i64 t109 16383)) = false := decide_eq_false c25
                          clear c25
                          by_cases c31 : x10_2 < 0
                          · rw [if_pos c31] at H
                            have c31b0 : decide (x10_2 < 0) = true := decide_eq_true c31
                            clear c31
                            have H' := Aside0.mk H
                            clear H
                            have p102 : 0 ≤ (x9_2 : Int) := of_decide_eq_true (by first | (with_reducible assumption) | assumption)
                            have q102 : x9_2 < (l0.length : Int) := of_decide_eq_true (by first | (with_reducible assumption) | assumption)
                            obtain ⟨ad102, e102, hx102_0⟩ := Kd.at_int HR0.out x9_2 p102 q102
                            cases e102
                            replace hx102_0 := (HB.out.cell (World.block_lt_of_cell? w _ hx102_0)).trans hx102_0
                            replace p102 := eq_true p102
                            replace q102 := eq_true q102
                            go_wp2_with (first | ((with_reducible refine gate_callee (f := 35) rfl ?_); refine goesL_ (some 76) rfl rfl Try.func35 (by kernel_rfl) rfl #[.slice (some ad102) l0.length c0, .int .i64 x9_2] rfl (by (try simp only [List.map_toArray, List.map_cons, List.map_nil]); first | done | rfl | (simp only [List.length_drop, List.length_take]; rfl)) ?_; (with_reducible refine (octet_Get16.calls _ _ l0 x9_2 t109 t110 t111 t112 _ ?side1 ?side2 A23.out).mono ?_); (case side1 => repeat (first | exact (Kd.C_below HR0.out HB.out) | (with_reducible refine Kd.C_alloc ?_ _) | (with_reducible refine Kd.C_drewN ?_ _) | (with_reducible refine Kd.C_drew ?_))); (case side2 => exact HC0.out); rintro e w32 ⟨rfl, hb⟩; refine ⟨_, rfl, ?_⟩; have n0_ := Aside0.mk (Kd.R_below (by (with_reducible repeat (first | apply Kd.R_alloc | apply Kd.R_drewN | apply Kd.R_drew)); exact HO_7.out) hb); have n1_ := Aside0.mk (blk_below (g := gb101) (o := .cells #[.int .i64 x102000_2, .int .i64 x102001_2] 31 (0, 0)) (by (with_reducible repeat (first | refine blk_drewN ?_ _ | refine blk_drew ?_ | refine blk_alloc ?_ _)); exact BK101.out) hb); have n2_ := Aside0.mk (below_step (by repeat (first | (with_reducible first | exact HB.out | apply below_alloc | apply pw_below_drewN | apply below_drew1 | refine below_set ?_ GE101.out) | exact HB.out)) hb); clear HO_7; clear BK101; clear HB; have HO_7 := n0_; have BK101 := n1_; have HB := n2_; clear n0_ n1_ n2_; (try clear hb); (try clear hb2); (try clear hk); (try clear hi)) | ((with_reducible refine gate_dst (N := 14) rfl ?_); (try (refine gate_guard (by rfl) ?_; dsimp only)); refine box_event ?hg (N := 14) ?hd (cs := #[.int .i64 0, .int .i64 0]) (t := 31) ?hr ?_; (case hd => rfl); (case hg => rfl); (case hr => first | (go_simp; done) | (go_simp; rfl)); intro gb113 hg w33 hbox hb; have n0_ := Aside0.mk (Kd.R_below (by (with_reducible repeat (first | apply Kd.R_alloc | apply Kd.R_drewN | apply Kd.R_drew)); exact HO_7.out) hb); have n1_ := Aside0.mk (blk_below (g := gb101) (o := .cells #[.int .i64 x102000_2, .int .i64 x102001_2] 31 (0, 0)) (by (with_reducible repeat (first | refine blk_drewN ?_ _ | refine blk_drew ?_ | refine blk_alloc ?_ _)); exact BK101.out) hb); have n2_ := Aside0.mk (below_step (by repeat (first | (with_reducible first | exact HB.out | apply below_alloc | apply pw_below_drewN | apply below_drew1 | refine below_set ?_ GE101.out) | exact HB.out)) hb); have n3_ := Aside0.mk (hbox); have n4_ := Aside0.mk ((by rw [hg]; exact (below_size (by repeat (first | (with_reducible first | exact HB.out | apply below_alloc | apply pw_below_drewN | apply below_drew1 | refine below_set ?_ GE101.out) | exact HB.out))) : w.heap.size ≤ gb113)); have n5_ := Aside0.mk ((by rw [hg]; exact (below_size (by repeat (first | (with_reducible first | exact HB.out | apply below_alloc | apply pw_below_drewN | apply below_drew1 | refine below_set ?_ GE101.out) | exact HB.out))) : w.heap.size ≤ gb113)); have n6_ := Aside0.mk ((by rw [hg]; exact Nat.ne_of_lt (blk_lt (g := gb101) (o := .cells #[.int .i64 x102000_2, .int .i64 x102001_2] 31 (0, 0)) (by (with_reducible repeat (first | refine blk_drewN ?_ _ | refine blk_drew ?_ | refine blk_alloc ?_ _)); exact BK101.out)) : gb101 ≠ gb113)); have n7_ := Aside0.mk ((by rw [hg]; exact Nat.ne_of_gt (blk_lt (g := gb101) (o := .cells #[.int .i64 x102000_2, .int .i64 x102001_2] 31 (0, 0)) (by (with_reducible repeat (first | refine blk_drewN ?_ _ | refine blk_drew ?_ | refine blk_alloc ?_ _)); exact BK101.out)) : gb113 ≠ gb101)); clear HO_7; clear BK101; clear HB; have HO_7 := n0_; have BK101 := n1_; have HB := n2_; have BK113 := n3_; have GW113 := n4_; have GE113 := n5_; have NB101_113 := n6_; have NB113_101 := n7_; clear n0_ n1_ n2_ n3_ n4_ n5_ n6_ n7_; clear hb hbox hg; have hnb34 := NB113_101.out; have hnc34 := NB101_113.out; have hcz35_0 : w33.cell? ⟨gb113, 0, none⟩ = some (.int .i64 0) := (blk_cell BK113.out 0).trans rfl; have hcz35_1 : w33.cell? ⟨gb113, 1, none⟩ = some (.int .i64 0) := (blk_cell BK113.out 1).trans rfl; have hfz35_0 := blk_frozen BK113.out 0; have hfz35_1 := blk_frozen BK113.out 1))
                            go_roundg k2
                            case measure => have := HJ2.out; have := HK2.out; omega
                            case rel => exact ⟨(x7_2), (Go.bits .and .i64 t109 16383), (Go.bits .and .i64 t109 16383), (t110), (x102000_2), (x102001_2), (by first | rfl | (simp; done) | (simp [*]; done)), (by first | rfl | (simp; done) | (simp [*]; done)), (by first | rfl | (simp; done) | (simp [*]; done)), H', ⟨by have := HJ2.out; have := HK2.out; omega⟩, ⟨by (with_reducible repeat (first | apply Kd.R_alloc | apply Kd.R_drewN | apply Kd.R_drew)); exact Kd.R_mono (Kd.R_far (p := ⟨gb113, 1, none⟩) (Kd.R_far (p := ⟨gb113, 0, none⟩) (Kd.R_types HO_7.out BK113.out (by decide)) (fun _ hk => hk.2) (.int .i64 t111)) (fun _ hk => hk.2) (.int .i64 t112)) (fun _ hk => trivial)⟩, ⟨by (with_reducible repeat (first | refine blk_drewN ?_ _ | refine blk_drew ?_ | refine blk_alloc ?_ _)); refine blk_far ?_ NB101_113.out _; (with_reducible repeat (first | refine blk_drewN ?_ _ | refine blk_drew ?_ | refine blk_alloc ?_ _)); refine blk_far ?_ NB101_113.out _; (with_reducible repeat (first | refine blk_drewN ?_ _ | refine blk_drew ?_ | refine blk_alloc ?_ _)); exact BK101.out⟩, ⟨by repeat (first | (with_reducible first | exact HB.out | apply below_alloc | apply pw_below_drewN | apply below_drew1 | refine below_set ?_ GE101.out | refine below_set ?_ GE113.out) | exact HB.out)⟩⟩
                          · rw [if_neg c31] at H
                            have c31b0 : decide (x10_2 < 0) = false := decide_eq_false c31
                            clear c31
                            have H' := Aside0.mk H
                            clear H
                            have p102 : 0 ≤ (x9_2 : Int) := of_decide_eq_true (by first | (with_reducible assumption) | assumption)
                            have q102 : x9_2 < (l0.length : Int) := of_decide_eq_true (by first | (with_reducible assumption) | assumption)
                            obtain ⟨ad102, e102, hx102_0⟩ := Kd.at_int HR0.out x9_2 p102 q102
                            cases e102
                            replace hx102_0 := (HB.out.cell (World.block_lt_of_cell? w _ hx102_0)).trans hx102_0
                            replace p102 := eq_true p102
                            replace q102 := eq_true q102
                            go_wp2_with (first | ((with_reducible refine gate_callee (f := 35) rfl ?_); refine goesL_ (some 76) rfl rfl Try.func35 (by kernel_rfl) rfl #[.slice (some ad102) l0.length c0, .int .i64 x9_2] rfl (by (try simp only [List.map_toArray, List.map_cons, List.map_nil]); first | done | rfl | (simp only [List.length_drop, List.length_take]; rfl)) ?_; (with_reducible refine (octet_Get16.calls _ _ l0 x9_2 t109 t110 t111 t112 _ ?side1 ?side2 A23.out).mono ?_); (case side1 => repeat (first | exact (Kd.C_below HR0.out HB.out) | (with_reducible refine Kd.C_alloc ?_ _) | (with_reducible refine Kd.C_drewN ?_ _) | (with_reducible refine Kd.C_drew ?_))); (case side2 => exact HC0.out); rintro e w36 ⟨rfl, hb⟩; refine ⟨_, rfl, ?_⟩; have n0_ := Aside0.mk (Kd.R_below (by (with_reducible repeat (first | apply Kd.R_alloc | apply Kd.R_drewN | apply Kd.R_drew)); exact HO_7.out) hb); have n1_ := Aside0.mk (blk_below (g := gb101) (o := .cells #[.int .i64 x102000_2, .int .i64 x102001_2] 31 (0, 0)) (by (with_reducible repeat (first | refine blk_drewN ?_ _ | refine blk_drew ?_ | refine blk_alloc ?_ _)); exact BK101.out) hb); have n2_ := Aside0.mk (below_step (by repeat (first | (with_reducible first | exact HB.out | apply below_alloc | apply pw_below_drewN | apply below_drew1 | refine below_set ?_ GE101.out) | exact HB.out)) hb); clear HO_7; clear BK101; clear HB; have HO_7 := n0_; have BK101 := n1_; have HB := n2_; clear n0_ n1_ n2_; (try clear hb); (try clear hb2); (try clear hk); (try clear hi)) | ((with_reducible refine gate_dst (N := 14) rfl ?_); (try (refine gate_guard (by rfl) ?_; dsimp only)); refine box_event ?hg (N := 14) ?hd (cs := #[.int .i64 0, .int .i64 0]) (t := 31) ?hr ?_; (case hd => rfl); (case hg => rfl); (case hr => first | (go_simp; done) | (go_simp; rfl)); intro gb113 hg w37 hbox hb; have n0_ := Aside0.mk (Kd.R_below (by (with_reducible repeat (first | apply Kd.R_alloc | apply Kd.R_drewN | apply Kd.R_drew)); exact HO_7.out) hb); have n1_ := Aside0.mk (blk_below (g := gb101) (o := .cells #[.int .i64 x102000_2, .int .i64 x102001_2] 31 (0, 0)) (by (with_reducible repeat (first | refine blk_drewN ?_ _ | refine blk_drew ?_ | refine blk_alloc ?_ _)); exact BK101.out) hb); have n2_ := Aside0.mk (below_step (by repeat (first | (with_reducible first | exact HB.out | apply below_alloc | apply pw_below_drewN | apply below_drew1 | refine below_set ?_ GE101.out) | exact HB.out)) hb); have n3_ := Aside0.mk (hbox); have n4_ := Aside0.mk ((by rw [hg]; exact (below_size (by repeat (first | (with_reducible first | exact HB.out | apply below_alloc | apply pw_below_drewN | apply below_drew1 | refine below_set ?_ GE101.out) | exact HB.out))) : w.heap.size ≤ gb113)); have n5_ := Aside0.mk ((by rw [hg]; exact (below_size (by repeat (first | (with_reducible first | exact HB.out | apply below_alloc | apply pw_below_drewN | apply below_drew1 | refine below_set ?_ GE101.out) | exact HB.out))) : w.heap.size ≤ gb113)); have n6_ := Aside0.mk ((by rw [hg]; exact Nat.ne_of_lt (blk_lt (g := gb101) (o := .cells #[.int .i64 x102000_2, .int .i64 x102001_2] 31 (0, 0)) (by (with_reducible repeat (first | refine blk_drewN ?_ _ | refine blk_drew ?_ | refine blk_alloc ?_ _)); exact BK101.out)) : gb101 ≠ gb113)); have n7_ := Aside0.mk ((by rw [hg]; exact Nat.ne_of_gt (blk_lt (g := gb101) (o := .cells #[.int .i64 x102000_2, .int .i64 x102001_2] 31 (0, 0)) (by (with_reducible repeat (first | refine blk_drewN ?_ _ | refine blk_drew ?_ | refine blk_alloc ?_ _)); exact BK101.out)) : gb113 ≠ gb101)); clear HO_7; clear BK101; clear HB; have HO_7 := n0_; have BK101 := n1_; have HB := n2_; have BK113 := n3_; have GW113 := n4_; have GE113 := n5_; have NB101_113 := n6_; have NB113_101 := n7_; clear n0_ n1_ n2_ n3_ n4_ n5_ n6_ n7_; clear hb hbox hg; have hnb38 := NB113_101.out; have hnc38 := NB101_113.out; have hcz39_0 : w37.cell? ⟨gb113, 0, none⟩ = some (.int .i64 0) := (blk_cell BK113.out 0).trans rfl; have hcz39_1 : w37.cell? ⟨gb113, 1, none⟩ = some (.int .i64 0) := (blk_cell BK113.out 1).trans rfl; have hfz39_0 := blk_frozen BK113.out 0; have hfz39_1 := blk_frozen BK113.out 1))
                            go_roundg k2
                            case measure => have := HJ2.out; have := HK2.out; omega
                            case rel => exact ⟨(x7_2), (Go.bits .and .i64 t109 16383), (Go.bits .and .i64 t109 16383), (x10_2), (x102000_2), (x102001_2), (by first | rfl | (simp; done) | (simp [*]; done)), (by first | rfl | (simp; done) | (simp [*]; done)), (by first | rfl | (simp; done) | (simp [*]; done)), H', ⟨by have := HJ2.out; have := HK2.out; omega⟩, ⟨by (with_reducible repeat (first | apply Kd.R_alloc | apply Kd.R_drewN | apply Kd.R_drew)); exact Kd.R_mono (Kd.R_far (p := ⟨gb113, 1, none⟩) (Kd.R_far (p := ⟨gb113, 0, none⟩) (Kd.R_types HO_7.out BK113.out (by decide)) (fun _ hk => hk.2) (.int .i64 t111)) (fun _ hk => hk.2) (.int .i64 t112)) (fun _ hk => trivial)⟩, ⟨by (with_reducible repeat (first | refine blk_drewN ?_ _ | refine blk_drew ?_ | refine blk_alloc ?_ _)); refine blk_far ?_ NB101_113.out _; (with_reducible repeat (first | refine blk_drewN ?_ _ | refine blk_drew ?_ | refine blk_alloc ?_ _)); refine blk_far ?_ NB101_113.out _; (with_reducible repeat (first | refine blk_drewN ?_ _ | refine blk_drew ?_ | refine blk_alloc ?_ _)); exact BK101.out⟩, ⟨by repeat (first | (with_reducible first | exact HB.out | apply below_alloc | apply pw_below_drewN | apply below_drew1 | refine below_set ?_ GE101.out | refine below_set ?_ GE113.out) | exact HB.out)⟩⟩
                      · rw [if_neg c24] at H
                        have c24b0 : (t111 == 0) = false := beq_eq_false_iff_ne.mpr c24
                        have c24b1 : (t111 != 0) = true := bne_iff_ne.mpr c24
                        simp only [Option.some.injEq, Prod.mk.injEq] at H
                        obtain ⟨rfl, rfl, rfl, rfl⟩ := H
                        have p102 : 0 ≤ (x9_2 : Int) := of_decide_eq_true (by first | (with_reducible assumption) | assumption)
                        have q102 : x9_2 < (l0.length : Int) := of_decide_eq_true (by first | (with_reducible assumption) | assumption)
                        obtain ⟨ad102, e102, hx102_0⟩ := Kd.at_int HR0.out x9_2 p102 q102
                        cases e102
                        replace hx102_0 := (HB.out.cell (World.block_lt_of_cell? w _ hx102_0)).trans hx102_0
                        replace p102 := eq_true p102
                        replace q102 := eq_true q102
                        try go_wp2_with (first | ((with_reducible refine gate_callee (f := 35) rfl ?_); refine goesL_ (some 76) rfl rfl Try.func35 (by kernel_rfl) rfl #[.slice (some ad102) l0.length c0, .int .i64 x9_2] rfl (by (try simp only [List.map_toArray, List.map_cons, List.map_nil]); first | done | rfl | (simp only [List.length_drop, List.length_take]; rfl)) ?_; (with_reducible refine (octet_Get16.calls _ _ l0 x9_2 t109 t110 t111 t112 _ ?side1 ?side2 A23.out).mono ?_); (case side1 => repeat (first | exact (Kd.C_below HR0.out HB.out) | (with_reducible refine Kd.C_alloc ?_ _) | (with_reducible refine Kd.C_drewN ?_ _) | (with_reducible refine Kd.C_drew ?_))); (case side2 => exact HC0.out); rintro e w40 ⟨rfl, hb⟩; refine ⟨_, rfl, ?_⟩; have n0_ := Aside0.mk (Kd.R_below (by (with_reducible repeat (first | apply Kd.R_alloc | apply Kd.R_drewN | apply Kd.R_drew)); exact HO_7.out) hb); have n1_ := Aside0.mk (blk_below (g := gb101) (o := .cells #[.int .i64 x102000_2, .int .i64 x102001_2] 31 (0, 0)) (by (with_reducible repeat (first | refine blk_drewN ?_ _ | refine blk_drew ?_ | refine blk_alloc ?_ _)); exact BK101.out) hb); have n2_ := Aside0.mk (below_step (by repeat (first | (with_reducible first | exact HB.out | apply below_alloc | apply pw_below_drewN | apply below_drew1 | refine below_set ?_ GE101.out) | exact HB.out)) hb); clear HO_7; clear BK101; clear HB; have HO_7 := n0_; have BK101 := n1_; have HB := n2_; clear n0_ n1_ n2_; (try clear hb); (try clear hb2); (try clear hk); (try clear hi)) | ((with_reducible refine gate_dst (N := 14) rfl ?_); (try (refine gate_guard (by rfl) ?_; dsimp only)); refine box_event ?hg (N := 14) ?hd (cs := #[.int .i64 0, .int .i64 0]) (t := 31) ?hr ?_; (case hd => rfl); (case hg => rfl); (case hr => first | (go_simp; done) | (go_simp; rfl)); intro gb113 hg w41 hbox hb; have n0_ := Aside0.mk (Kd.R_below (by (with_reducible repeat (first | apply Kd.R_alloc | apply Kd.R_drewN | apply Kd.R_drew)); exact HO_7.out) hb); have n1_ := Aside0.mk (blk_below (g := gb101) (o := .cells #[.int .i64 x102000_2, .int .i64 x102001_2] 31 (0, 0)) (by (with_reducible repeat (first | refine blk_drewN ?_ _ | refine blk_drew ?_ | refine blk_alloc ?_ _)); exact BK101.out) hb); have n2_ := Aside0.mk (below_step (by repeat (first | (with_reducible first | exact HB.out | apply below_alloc | apply pw_below_drewN | apply below_drew1 | refine below_set ?_ GE101.out) | exact HB.out)) hb); have n3_ := Aside0.mk (hbox); have n4_ := Aside0.mk ((by rw [hg]; exact (below_size (by repeat (first | (with_reducible first | exact HB.out | apply below_alloc | apply pw_below_drewN | apply below_drew1 | refine below_set ?_ GE101.out) | exact HB.out))) : w.heap.size ≤ gb113)); have n5_ := Aside0.mk ((by rw [hg]; exact (below_size (by repeat (first | (with_reducible first | exact HB.out | apply below_alloc | apply pw_below_drewN | apply below_drew1 | refine below_set ?_ GE101.out) | exact HB.out))) : w.heap.size ≤ gb113)); have n6_ := Aside0.mk ((by rw [hg]; exact Nat.ne_of_lt (blk_lt (g := gb101) (o := .cells #[.int .i64 x102000_2, .int .i64 x102001_2] 31 (0, 0)) (by (with_reducible repeat (first | refine blk_drewN ?_ _ | refine blk_drew ?_ | refine blk_alloc ?_ _)); exact BK101.out)) : gb101 ≠ gb113)); have n7_ := Aside0.mk ((by rw [hg]; exact Nat.ne_of_gt (blk_lt (g := gb101) (o := .cells #[.int .i64 x102000_2, .int .i64 x102001_2] 31 (0, 0)) (by (with_reducible repeat (first | refine blk_drewN ?_ _ | refine blk_drew ?_ | refine blk_alloc ?_ _)); exact BK101.out)) : gb113 ≠ gb101)); clear HO_7; clear BK101; clear HB; have HO_7 := n0_; have BK101 := n1_; have HB := n2_; have BK113 := n3_; have GW113 := n4_; have GE113 := n5_; have NB101_113 := n6_; have NB113_101 := n7_; clear n0_ n1_ n2_ n3_ n4_ n5_ n6_ n7_; clear hb hbox hg; have hnb42 := NB113_101.out; have hnc42 := NB101_113.out; have hcz43_0 : w41.cell? ⟨gb113, 0, none⟩ = some (.int .i64 0) := (blk_cell BK113.out 0).trans rfl; have hcz43_1 : w41.cell? ⟨gb113, 1, none⟩ = some (.int .i64 0) := (blk_cell BK113.out 1).trans rfl; have hfz43_0 := blk_frozen BK113.out 0; have hfz43_1 := blk_frozen BK113.out 1))
                        have n0_ : Aside0 (Kd.R (Kd.int .u8) 5 ((w41.setCell ⟨gb113, 0, none⟩ (.int .i64 t111)).setCell ⟨gb113, 1, none⟩ (.int .i64 t112)) w.heap.size (fun _ => True) u7 x7_2) := ⟨by (with_reducible repeat (first | apply Kd.R_alloc | apply Kd.R_drewN | apply Kd.R_drew)); exact Kd.R_mono (Kd.R_far (p := ⟨gb113, 1, none⟩) (Kd.R_far (p := ⟨gb113, 0, none⟩) (Kd.R_types HO_7.out BK113.out (by decide)) (fun _ hk => hk.2) (.int .i64 t111)) (fun _ hk => hk.2) (.int .i64 t112)) (fun _ hk => trivial)⟩
                        have n1_ : Aside0 (((w41.setCell ⟨gb113, 0, none⟩ (.int .i64 t111)).setCell ⟨gb113, 1, none⟩ (.int .i64 t112)).heap[gb101]? = some (.cells #[.int .i64 x102000_2, .int .i64 x102001_2] 31 (0, 0))) := ⟨by (with_reducible repeat (first | refine blk_drewN ?_ _ | refine blk_drew ?_ | refine blk_alloc ?_ _)); refine blk_far ?_ NB101_113.out _; (with_reducible repeat (first | refine blk_drewN ?_ _ | refine blk_drew ?_ | refine blk_alloc ?_ _)); refine blk_far ?_ NB101_113.out _; (with_reducible repeat (first | refine blk_drewN ?_ _ | refine blk_drew ?_ | refine blk_alloc ?_ _)); exact BK101.out⟩
                        have n2_ : Aside0 (((w41.setCell ⟨gb113, 0, none⟩ (.int .i64 t111)).setCell ⟨gb113, 1, none⟩ (.int .i64 t112)).heap[gb113]? = some (.cells #[.int .i64 t111, .int .i64 t112] 31 (0, 0))) := ⟨by (with_reducible repeat (first | refine blk_drewN ?_ _ | refine blk_drew ?_ | refine blk_alloc ?_ _)); refine blk_put (cs := #[.int .i64 t111, .int .i64 0]) ?_ 1 _ rfl; (with_reducible repeat (first | refine blk_drewN ?_ _ | refine blk_drew ?_ | refine blk_alloc ?_ _)); refine blk_put (cs := #[.int .i64 0, .int .i64 0]) ?_ 0 _ rfl; (with_reducible repeat (first | refine blk_drewN ?_ _ | refine blk_drew ?_ | refine blk_alloc ?_ _)); exact BK113.out⟩
                        have n3_ : Aside0 (Below w.heap.size w ((w41.setCell ⟨gb113, 0, none⟩ (.int .i64 t111)).setCell ⟨gb113, 1, none⟩ (.int .i64 t112))) := ⟨by repeat (first | (with_reducible first | exact HB.out | apply below_alloc | apply pw_below_drewN | apply below_drew1 | refine below_set ?_ GE101.out | refine below_set ?_ GE113.out) | exact HB.out)⟩
                        (try clear HO_7)
                        (try clear BK101)
                        (try clear BK113)
                        (try clear HB)
                        generalize ((w41.setCell ⟨gb113, 0, none⟩ (.int .i64 t111)).setCell ⟨gb113, 1, none⟩ (.int .i64 t112)) = w44 at n0_ n1_ n2_ n3_ ⊢
                        have HO_7 := n0_
                        have BK101 := n1_
                        have BK113 := n2_
                        have HB := n3_
                        clear n0_ n1_ n2_ n3_
                        have n0_ := Aside0.mk (Kd.R_drew HO_7.out)
                        have n1_ := Aside0.mk (blk_drew BK101.out)
                        have n2_ := Aside0.mk (blk_drew BK113.out)
                        have n3_ := Aside0.mk (below_drew1 HB.out)
                        clear HO_7
                        clear BK101
                        clear BK113
                        clear HB
                        have HO_7 := n0_
                        have BK101 := n1_
                        have BK113 := n2_
                        have HB := n3_
                        clear n0_ n1_ n2_ n3_
                        refine start_ (n := 4) (S := fun w' => w'.cell? ⟨gb113, 0, none⟩ = some (.int .i64 t111) ∧ w'.cell? ⟨gb113, 1, none⟩ = some (.int .i64 t112)) (ds := []) #[false, false, false, false] (by kernel_rfl) rfl rfl ⟨(blk_cell BK113.out 0).trans rfl, (blk_cell BK113.out 1).trans rfl⟩ (fun hHeld => ?_)
                        generalize w44.drew = w45 at HO_7 BK101 BK113 HB hHeld ⊢
                        refine pure_ (i := 1) (N := some 4) (v := ?_) (a' := ?_) #[false, true, false, false] rfl rfl (by kernel_rfl) (fun _ _ _ h => h) (Or.inl ⟨by rfl, ?_⟩) ?_ ?_
                        rotate_left
                        · intro w'
                          go_simp
                          with_reducible rfl
                        rotate_left
                        · simp only [Act.put, List.setIfInBounds_toArray, List.set_cons_zero, List.set_cons_succ, i64_w, i32_w]
                          rfl
                        refine pure_ (i := 2) (N := some 5) (v := ?_) (a' := ?_) #[false, true, true, false] rfl rfl (by kernel_rfl) (fun _ _ _ h => h) (Or.inl ⟨by rfl, ?_⟩) ?_ ?_
                        rotate_left
                        · intro w'
                          go_simp
                          with_reducible rfl
                        rotate_left
                        · simp only [Act.put, List.setIfInBounds_toArray, List.set_cons_zero, List.set_cons_succ, i64_w, i32_w]
                          rfl
                        refine take_ (i := 0) (N := some 83) (v := ?_) (a' := ?_) #[true, true, true, false] rfl rfl (by kernel_rfl) (fun _ _ _ h => h) (Or.inl ⟨by rfl, ?_⟩) hHeld ?_ ?_
                        rotate_left
                        · rintro w' ⟨s0, s1⟩
                          go_simp
                          with_reducible rfl
                        rotate_left
                        · simp only [Act.put, List.setIfInBounds_toArray, List.set_cons_zero, List.set_cons_succ, i64_w, i32_w]
                          rfl
                        refine one_ (i := 3) (N := none) #[true, true, true, true] rfl rfl (by kernel_rfl) (by decide) (fun K hK => ?_)
                        have hs46 : w45.cell? ⟨gb101, 0, none⟩ = some (.int .i64 x102000_2) := (blk_cell BK101.out 0).trans rfl
                        have hfs46 := blk_frozen BK101.out 0
                        have hns46_1 := NB113_101.out
                        have hms46_1 := NB101_113.out
                        have hs47 : w45.cell? ⟨gb101, 1, none⟩ = some (.int .i64 x102001_2) := (blk_cell BK101.out 1).trans rfl
                        have hfs47 := blk_frozen BK101.out 1
                        have hns47_1 := NB113_101.out
                        have hms47_1 := NB101_113.out
                        refine skip_ (w1 := ?_) (by rfl) rfl ?_ ?_
                        rotate_left
                        · go_simp
                          rfl
                        refine hK.out _ _ ⟨((cell_far (p := ⟨gb101, _, none⟩) NB113_101.out _).trans (((cell_far (p := ⟨gb101, _, none⟩) NB113_101.out _).trans (hHeld.1)))), ((cell_far (p := ⟨gb101, _, none⟩) NB113_101.out _).trans (((cell_far (p := ⟨gb101, _, none⟩) NB113_101.out _).trans (hHeld.2))))⟩ (fun hHeld => ?_)
                        clear hK K
                        refine done_ (by kernel_rfl) ?_
                        try go_wp2
                        (try rw [Exit.noGoto_ret])
                        refine bodyPost_ret (results_list (rs := [.tmp 4, .tmp 5, .cell 6 31]) rfl (by simp) (.tmp (.tmp (.cell gb101 31 #[.int .i64 t111, .int .i64 t112] (0, 0) _ rfl (by (with_reducible repeat (first | refine blk_drewN ?_ _ | refine blk_drew ?_ | refine blk_alloc ?_ _)); refine blk_put (cs := #[.int .i64 t111, .int .i64 x102001_2]) ?_ 1 _ rfl; (with_reducible repeat (first | refine blk_drewN ?_ _ | refine blk_drew ?_ | refine blk_alloc ?_ _)); refine blk_put (cs := #[.int .i64 x102000_2, .int .i64 x102001_2]) ?_ 0 _ rfl; (with_reducible repeat (first | refine blk_drewN ?_ _ | refine blk_drew ?_ | refine blk_alloc ?_ _)); exact BK101.out) Try.underlying31 rfl (by kernel_rfl) .nil)))) rfl ?_
                        exact ⟨by first | rfl | (simp [errW_none, errW_some] <;> rfl) | (simp [*, errW_none, errW_some] <;> rfl), by repeat (first | (with_reducible first | exact HB.out | apply below_alloc | apply pw_below_drewN | apply below_drew1 | refine below_set ?_ GE101.out | refine below_set ?_ GE113.out) | exact HB.out)⟩
                    · rw [if_neg c22] at H
                      have c22b0 : decide (192 ≤ (wrap64 (rd l0 x9_2))) = false := decide_eq_false c22
                      clear c22
                      by_cases c48 : (wrap64 (rd l0 x9_2)) > 63
                      · rw [if_pos c48] at H
                        have c48b0 : decide (63 < (wrap64 (rd l0 x9_2))) = true := decide_eq_true c48
                        clear c48
                        simp only [Option.some.injEq, Prod.mk.injEq] at H
                        obtain ⟨rfl, rfl, rfl, rfl⟩ := H
                        have p102 : 0 ≤ (x9_2 : Int) := of_decide_eq_true (by first | (with_reducible assumption) | assumption)
                        have q102 : x9_2 < (l0.length : Int) := of_decide_eq_true (by first | (with_reducible assumption) | assumption)
                        obtain ⟨ad102, e102, hx102_0⟩ := Kd.at_int HR0.out x9_2 p102 q102
                        cases e102
                        replace hx102_0 := (HB.out.cell (World.block_lt_of_cell? w _ hx102_0)).trans hx102_0
                        replace p102 := eq_true p102
                        replace q102 := eq_true q102
                        have hcz49_0 : wr.cell? ⟨gb101, 0, none⟩ = some (.int .i64 x102000_2) := (blk_cell BK101.out 0).trans rfl
                        have hcz49_1 : wr.cell? ⟨gb101, 1, none⟩ = some (.int .i64 x102001_2) := (blk_cell BK101.out 1).trans rfl
                        have hfz49_0 := blk_frozen BK101.out 0
                        have hfz49_1 := blk_frozen BK101.out 1
                        go_wp2
                        (try rw [Exit.noGoto_ret])
                        refine bodyPost_ret (results_list (rs := [.tmp 4, .tmp 5, .cell 6 31]) rfl (by simp) (.tmp (.tmp (.cell gb101 31 #[.int .i64 4, .int .i64 x9_2] (0, 0) _ rfl (by (with_reducible repeat (first | refine blk_drewN ?_ _ | refine blk_drew ?_ | refine blk_alloc ?_ _)); refine blk_put (cs := #[.int .i64 4, .int .i64 x102001_2]) ?_ 1 _ rfl; (with_reducible repeat (first | refine blk_drewN ?_ _ | refine blk_drew ?_ | refine blk_alloc ?_ _)); refine blk_put (cs := #[.int .i64 x102000_2, .int .i64 x102001_2]) ?_ 0 _ rfl; (with_reducible repeat (first | refine blk_drewN ?_ _ | refine blk_drew ?_ | refine blk_alloc ?_ _)); exact BK101.out) Try.underlying31 rfl (by kernel_rfl) .nil)))) rfl ?_
                        exact ⟨by first | rfl | (simp [errW_none, errW_some] <;> rfl) | (simp [*, errW_none, errW_some] <;> rfl), by repeat (first | (with_reducible first | exact HB.out | apply below_alloc | apply pw_below_drewN | apply below_drew1 | refine below_set ?_ GE101.out) | exact HB.out)⟩
                      · rw [if_neg c48] at H
                        have c48b0 : decide (63 < (wrap64 (rd l0 x9_2))) = false := decide_eq_false c48
                        clear c48
                        replace H := Option.bind_eq_some_iff.mp H
                        obtain ⟨⟨t114, t117, t118, t119⟩, A500, H⟩ := H
                        replace H : (if t118 = 0 then (if x7_2.length + t114.length < 140737488355328 then ((some (x7_2 ++ t114 : List Int)).bind fun y121 => (if (y121.length : Int) > 254 then (some ((⟨#[]⟩ : ByteArray), 0, 3, a1)) else (wire_Read.l0 k2 l0 a1 y121 x8_2 t117 x10_2))) else (none)) else (some ((⟨#[]⟩ : ByteArray), 0, t118, t119))) = some (r1, r2, r3, r4) := H
                        have A50 := Aside0.mk A500
                        clear A500
                        by_cases c51 : t118 = 0
                        · rw [if_pos c51] at H
                          have c51b0 : (t118 == 0) = true := beq_iff_eq.mpr c51
                          have c51b1 : (t118 != 0) = false := bne_eq_false_iff_eq.mpr c51
                          clear c51
                          by_cases c52 : x7_2.length + t114.length < 140737488355328
                          · rw [if_pos c52] at H
                            have LMc52 := Aside0.mk c52
                            clear c52
                            obtain ⟨y121, hy121⟩ : ∃ y_ : List Int, y_ = (x7_2 ++ t114) := ⟨_, rfl⟩
                            replace H : (if (y121.length : Int) > 254 then (some ((⟨#[]⟩ : ByteArray), 0, 3, a1)) else (wire_Read.l0 k2 l0 a1 y121 x8_2 t117 x10_2)) = some (r1, r2, r3, r4) := by first | (rw [hy121]; with_reducible exact H) | (have H2_ := (Option.bind_some _ _).symm.trans H; rw [hy121]; with_reducible exact H2_) | (have H2_ := (Option.bind_some _ _).symm.trans H; with_reducible exact H2_) | with_reducible exact H | (rw [hy121]; exact H) | exact H
                            have Ny121 := Aside0.mk hy121
                            clear hy121
                            by_cases c53 : (y121.length : Int) > 254
                            · rw [if_pos c53] at H
                              have c53b0 : decide (254 < (y121.length : Int)) = true := decide_eq_true c53
                              have c53b1 : decide (254 < y121.length) = true := decide_eq_true (by omega)
                              clear c53
                              simp only [Option.some.injEq, Prod.mk.injEq] at H
                              obtain ⟨rfl, rfl, rfl, rfl⟩ := H
                              have p102 : 0 ≤ (x9_2 : Int) := of_decide_eq_true (by first | (with_reducible assumption) | assumption)
                              have q102 : x9_2 < (l0.length : Int) := of_decide_eq_true (by first | (with_reducible assumption) | assumption)
                              obtain ⟨ad102, e102, hx102_0⟩ := Kd.at_int HR0.out x9_2 p102 q102
                              cases e102
                              replace hx102_0 := (HB.out.cell (World.block_lt_of_cell? w _ hx102_0)).trans hx102_0
                              replace p102 := eq_true p102
                              replace q102 := eq_true q102
                              go_wp2_with (first | ((with_reducible refine gate_callee (f := 39) rfl ?_); refine goesL_ (some 46) rfl rfl Try.func39 (by kernel_rfl) rfl #[.slice (some ad102) l0.length c0, .int .i64 x9_2, .int .i64 (wrap64 ((wrap64 (rd l0 x9_2)) + 1))] rfl (by (try simp only [List.map_toArray, List.map_cons, List.map_nil]); first | done | rfl | (simp only [List.length_drop, List.length_take]; rfl)) ?_; (with_reducible refine (octet_Bytes.calls k2 _ _ l0 x9_2 (wrap64 ((wrap64 (rd l0 x9_2)) + 1)) t114 t117 t118 t119 _ ?side1 ?side2 A50.out).mono ?_); (case side1 => repeat (first | exact (Kd.C_below HR0.out HB.out) | (with_reducible refine Kd.C_alloc ?_ _) | (with_reducible refine Kd.C_drewN ?_ _) | (with_reducible refine Kd.C_drew ?_))); (case side2 => exact HC0.out); rintro e w54 ⟨v115, rfl, ho0, hb⟩; refine ⟨_, rfl, ?_⟩; have n0_ := Aside0.mk (Kd.R_elder' (by (with_reducible repeat (first | apply Kd.R_alloc | apply Kd.R_drewN | apply Kd.R_drew)); exact HO_7.out) (Kd.R_base ho0) hb); have n1_ := Aside0.mk (Kd.R_lower (Kd.R_new' ho0 (Kd.R_lt (by (with_reducible repeat (first | apply Kd.R_alloc | apply Kd.R_drewN | apply Kd.R_drew)); exact HO_7.out))) (below_size (by repeat (first | (with_reducible first | exact HB.out | apply below_alloc | apply pw_below_drewN | apply below_drew1 | refine below_set ?_ GE101.out) | exact HB.out)))); have n2_ := Aside0.mk (blk_below (g := gb101) (o := .cells #[.int .i64 x102000_2, .int .i64 x102001_2] 31 (0, 0)) (by (with_reducible repeat (first | refine blk_drewN ?_ _ | refine blk_drew ?_ | refine blk_alloc ?_ _)); exact BK101.out) hb); have n3_ := Aside0.mk (below_step (by repeat (first | (with_reducible first | exact HB.out | apply below_alloc | apply pw_below_drewN | apply below_drew1 | refine below_set ?_ GE101.out) | exact HB.out)) hb); clear HO_7; clear BK101; clear HB; have HO_7 := n0_; have HO116 := n1_; have BK101 := n2_; have HB := n3_; clear n0_ n1_ n2_ n3_; (try clear hb); (try clear hb2); (try clear hk); (try clear hi); (try clear ho0)) | ((with_reducible refine gate_dst (N := 17) rfl ?_); (try (refine gate_guard (by rfl) ?_; dsimp only)); refine box_event ?hg (N := 17) ?hd (cs := #[.int .i64 0, .int .i64 0]) (t := 31) ?hr ?_; (case hd => rfl); (case hg => rfl); (case hr => first | (go_simp; done) | (go_simp; rfl)); intro gb120 hg w55 hbox hb; have n0_ := Aside0.mk (Kd.R_below (by (with_reducible repeat (first | apply Kd.R_alloc | apply Kd.R_drewN | apply Kd.R_drew)); exact HO_7.out) hb); have n1_ := Aside0.mk (Kd.R_below (by (with_reducible repeat (first | apply Kd.R_alloc | apply Kd.R_drewN | apply Kd.R_drew)); exact HO116.out) hb); have n2_ := Aside0.mk (blk_below (g := gb101) (o := .cells #[.int .i64 x102000_2, .int .i64 x102001_2] 31 (0, 0)) (by (with_reducible repeat (first | refine blk_drewN ?_ _ | refine blk_drew ?_ | refine blk_alloc ?_ _)); exact BK101.out) hb); have n3_ := Aside0.mk (below_step (by repeat (first | (with_reducible first | exact HB.out | apply below_alloc | apply pw_below_drewN | apply below_drew1 | refine below_set ?_ GE101.out) | exact HB.out)) hb); have n4_ := Aside0.mk (hbox); have n5_ := Aside0.mk ((by rw [hg]; exact (below_size (by repeat (first | (with_reducible first | exact HB.out | apply below_alloc | apply pw_below_drewN | apply below_drew1 | refine below_set ?_ GE101.out) | exact HB.out))) : w.heap.size ≤ gb120)); have n6_ := Aside0.mk ((by rw [hg]; exact (below_size (by repeat (first | (with_reducible first | exact HB.out | apply below_alloc | apply pw_below_drewN | apply below_drew1 | refine below_set ?_ GE101.out) | exact HB.out))) : w.heap.size ≤ gb120)); have n7_ := Aside0.mk ((by rw [hg]; exact Nat.ne_of_lt (blk_lt (g := gb101) (o := .cells #[.int .i64 x102000_2, .int .i64 x102001_2] 31 (0, 0)) (by (with_reducible repeat (first | refine blk_drewN ?_ _ | refine blk_drew ?_ | refine blk_alloc ?_ _)); exact BK101.out)) : gb101 ≠ gb120)); have n8_ := Aside0.mk ((by rw [hg]; exact Nat.ne_of_gt (blk_lt (g := gb101) (o := .cells #[.int .i64 x102000_2, .int .i64 x102001_2] 31 (0, 0)) (by (with_reducible repeat (first | refine blk_drewN ?_ _ | refine blk_drew ?_ | refine blk_alloc ?_ _)); exact BK101.out)) : gb120 ≠ gb101)); clear HO_7; clear HO116; clear BK101; clear HB; have HO_7 := n0_; have HO116 := n1_; have BK101 := n2_; have HB := n3_; have BK120 := n4_; have GW120 := n5_; have GE120 := n6_; have NB101_120 := n7_; have NB120_101 := n8_; clear n0_ n1_ n2_ n3_ n4_ n5_ n6_ n7_ n8_; clear hb hbox hg; have hnb56 := NB120_101.out; have hnc56 := NB101_120.out; have hcz57_0 : w55.cell? ⟨gb120, 0, none⟩ = some (.int .i64 0) := (blk_cell BK120.out 0).trans rfl; have hcz57_1 : w55.cell? ⟨gb120, 1, none⟩ = some (.int .i64 0) := (blk_cell BK120.out 1).trans rfl; have hfz57_0 := blk_frozen BK120.out 0; have hfz57_1 := blk_frozen BK120.out 1; obtain ⟨Ao59, co59, eo59⟩ := Kd.R_slice HO116.out; subst eo59) | ((with_reducible refine gate_builtin (b := .append) (xs := #[.tmp 54, .tmp 55]) rfl ?_); (try (refine gate_guard (by rfl) ?_; dsimp only)); at_builtin; refine Kd.R_append_rows (Kd.int .u8) (w0 := w) w.heap.size rfl (.tmp 54) (.tmp 55) 22 5 (.int .u8 0) 1 rfl Try.underlying22 info5 rfl (by decide) (by omega) u7 x7_2 t114 _ _ _ (fun k_ => some k_ ≠ (.slice Ao59 t114.length co59 : Value).ownBlock) (fun _ => False) rfl rfl ?aO ?aR (fun _ _ h => h) (fun _ h => h.elim) ?aF ?aB ?aS ?aL ?_; (case aR => refine (Kd.R_reads' (e := 5) (base := w.heap.size) (ok := fun k_ => (True ∧ some k_ ≠ (u7 : Value).ownBlock)) (n := t114.length) (c := co59) ?_).2.2; exact (by (with_reducible repeat (first | apply Kd.R_alloc | apply Kd.R_drewN | apply Kd.R_drew)); exact (Kd.R_mono (Kd.R_far (p := ⟨gb120, 1, none⟩) (Kd.R_far (p := ⟨gb120, 0, none⟩) (Kd.R_types HO116.out BK120.out (by decide)) (fun _ hk => hk.2) (.int .i64 t118)) (fun _ hk => hk.2) (.int .i64 t119)) (fun _ h_ => h_.1)))); (case aB => exact (by repeat (first | (with_reducible first | exact HB.out | apply below_alloc | apply pw_below_drewN | apply below_drew1 | refine below_set ?_ GE101.out | refine below_set ?_ GE120.out) | exact HB.out))); (case aF => exact (fun k_ hk => Kd.fresh' (Kd.R_lt (by (with_reducible repeat (first | apply Kd.R_alloc | apply Kd.R_drewN | apply Kd.R_drew)); exact (Kd.R_mono (Kd.R_far (p := ⟨gb120, 1, none⟩) (Kd.R_far (p := ⟨gb120, 0, none⟩) (Kd.R_types HO116.out BK120.out (by decide)) (fun _ hk => hk.2) (.int .i64 t118)) (fun _ hk => hk.2) (.int .i64 t119)) (fun _ h_ => h_.1)))) k_ hk)); (case aO => exact (by (with_reducible repeat (first | apply Kd.R_alloc | apply Kd.R_drewN | apply Kd.R_drew)); exact Kd.R_mono (Kd.R_far (p := ⟨gb120, 1, none⟩) (Kd.R_far (p := ⟨gb120, 0, none⟩) (Kd.R_types HO_7.out BK120.out (by decide)) (fun _ hk => hk.2) (.int .i64 t118)) (fun _ hk => hk.2) (.int .i64 t119)) (fun _ hk => hk.1.2))); (case aS => exact (below_size (by repeat (first | (with_reducible first | exact HB.out | apply below_alloc | apply pw_below_drewN | apply below_drew1 | refine below_set ?_ GE101.out | refine below_set ?_ GE120.out) | exact HB.out)))); (case aL => have := LMc52.out; omega); intro v122 w58 ho hb hg hat; rw [← Ny121.out] at ho; have n0_ := Aside0.mk (blk_grown (g := gb101) (o := .cells #[.int .i64 x102000_2, .int .i64 x102001_2] 31 (0, 0)) (by (with_reducible repeat (first | refine blk_drewN ?_ _ | refine blk_drew ?_ | refine blk_alloc ?_ _)); refine blk_far ?_ NB101_120.out _; (with_reducible repeat (first | refine blk_drewN ?_ _ | refine blk_drew ?_ | refine blk_alloc ?_ _)); refine blk_far ?_ NB101_120.out _; (with_reducible repeat (first | refine blk_drewN ?_ _ | refine blk_drew ?_ | refine blk_alloc ?_ _)); exact BK101.out) hg (Kd.R_ne HO_7.out BK101.out (by decide))); have n1_ := Aside0.mk (Kd.R_after (ok := (fun _ => True)) (by (with_reducible repeat (first | apply Kd.R_alloc | apply Kd.R_drewN | apply Kd.R_drew)); exact Kd.R_mono (Kd.R_far (p := ⟨gb120, 1, none⟩) (Kd.R_far (p := ⟨gb120, 0, none⟩) (Kd.R_types HO116.out BK120.out (by decide)) (fun _ hk => hk.2) (.int .i64 t118)) (fun _ hk => hk.2) (.int .i64 t119)) (fun _ hk => ⟨trivial, hk.1.2⟩)) hg hat); have n2_ := Aside0.mk (blk_grown (g := gb120) (o := .cells #[.int .i64 t118, .int .i64 t119] 31 (0, 0)) (by (with_reducible repeat (first | refine blk_drewN ?_ _ | refine blk_drew ?_ | refine blk_alloc ?_ _)); refine blk_put (cs := #[.int .i64 t118, .int .i64 0]) ?_ 1 _ rfl; (with_reducible repeat (first | refine blk_drewN ?_ _ | refine blk_drew ?_ | refine blk_alloc ?_ _)); refine blk_put (cs := #[.int .i64 0, .int .i64 0]) ?_ 0 _ rfl; (with_reducible repeat (first | refine blk_drewN ?_ _ | refine blk_drew ?_ | refine blk_alloc ?_ _)); exact BK120.out) hg (Kd.R_ne HO_7.out BK120.out (by decide))); have n3_ := Aside0.mk (hb); have n4_ := Aside0.mk (ho); clear BK101; clear HO116; clear BK120; clear HB; clear HO_7; have BK101 := n0_; have HO116 := n1_; have BK120 := n2_; have HB := n3_; have HO123 := n4_; clear n0_ n1_ n2_ n3_ n4_; clear ho hb hg hat; obtain ⟨Ao60, co60, eo60⟩ := Kd.R_slice HO123.out; subst eo60; have hcz61_0 : w58.cell? ⟨gb101, 0, none⟩ = some (.int .i64 x102000_2) := (blk_cell BK101.out 0).trans rfl; have hcz61_1 : w58.cell? ⟨gb101, 1, none⟩ = some (.int .i64 x102001_2) := (blk_cell BK101.out 1).trans rfl; have hfz61_0 := blk_frozen BK101.out 0; have hfz61_1 := blk_frozen BK101.out 1))
                              (try rw [Exit.noGoto_ret])
                              refine bodyPost_ret (results_list (rs := [.tmp 4, .tmp 5, .cell 6 31]) rfl (by simp) (.tmp (.tmp (.cell gb101 31 #[.int .i64 3, .int .i64 a1] (0, 0) _ rfl (by (with_reducible repeat (first | refine blk_drewN ?_ _ | refine blk_drew ?_ | refine blk_alloc ?_ _)); refine blk_put (cs := #[.int .i64 3, .int .i64 x102001_2]) ?_ 1 _ rfl; (with_reducible repeat (first | refine blk_drewN ?_ _ | refine blk_drew ?_ | refine blk_alloc ?_ _)); refine blk_put (cs := #[.int .i64 x102000_2, .int .i64 x102001_2]) ?_ 0 _ rfl; (with_reducible repeat (first | refine blk_drewN ?_ _ | refine blk_drew ?_ | refine blk_alloc ?_ _)); exact BK101.out) Try.underlying31 rfl (by kernel_rfl) .nil)))) rfl ?_
                              exact ⟨by first | rfl | (simp [errW_none, errW_some] <;> rfl) | (simp [*, errW_none, errW_some] <;> rfl), by repeat (first | (with_reducible first | exact HB.out | apply below_alloc | apply pw_below_drewN | apply below_drew1 | refine below_set ?_ GE101.out | refine below_set ?_ GE120.out) | exact HB.out)⟩
                            · rw [if_neg c53] at H
                              have c53b0 : decide (254 < (y121.length : Int)) = false := decide_eq_false c53
                              have c53b1 : decide (254 < y121.length) = false := decide_eq_false (by omega)
                              clear c53
                              have H' := Aside0.mk H
                              clear H
                              have p102 : 0 ≤ (x9_2 : Int) := of_decide_eq_true (by first | (with_reducible assumption) | assumption)
                              have q102 : x9_2 < (l0.length : Int) := of_decide_eq_true (by first | (with_reducible assumption) | assumption)
                              obtain ⟨ad102, e102, hx102_0⟩ := Kd.at_int HR0.out x9_2 p102 q102
                              cases e102
                              replace hx102_0 := (HB.out.cell (World.block_lt_of_cell? w _ hx102_0)).trans hx102_0
                              replace p102 := eq_true p102
                              replace q102 := eq_true q102
                              go_wp2_with (first | ((with_reducible refine gate_callee (f := 39) rfl ?_); refine goesL_ (some 46) rfl rfl Try.func39 (by kernel_rfl) rfl #[.slice (some ad102) l0.length c0, .int .i64 x9_2, .int .i64 (wrap64 ((wrap64 (rd l0 x9_2)) + 1))] rfl (by (try simp only [List.map_toArray, List.map_cons, List.map_nil]); first | done | rfl | (simp only [List.length_drop, List.length_take]; rfl)) ?_; (with_reducible refine (octet_Bytes.calls k2 _ _ l0 x9_2 (wrap64 ((wrap64 (rd l0 x9_2)) + 1)) t114 t117 t118 t119 _ ?side1 ?side2 A50.out).mono ?_); (case side1 => repeat (first | exact (Kd.C_below HR0.out HB.out) | (with_reducible refine Kd.C_alloc ?_ _) | (with_reducible refine Kd.C_drewN ?_ _) | (with_reducible refine Kd.C_drew ?_))); (case side2 => exact HC0.out); rintro e w62 ⟨v115, rfl, ho0, hb⟩; refine ⟨_, rfl, ?_⟩; have n0_ := Aside0.mk (Kd.R_elder' (by (with_reducible repeat (first | apply Kd.R_alloc | apply Kd.R_drewN | apply Kd.R_drew)); exact HO_7.out) (Kd.R_base ho0) hb); have n1_ := Aside0.mk (Kd.R_lower (Kd.R_new' ho0 (Kd.R_lt (by (with_reducible repeat (first | apply Kd.R_alloc | apply Kd.R_drewN | apply Kd.R_drew)); exact HO_7.out))) (below_size (by repeat (first | (with_reducible first | exact HB.out | apply below_alloc | apply pw_below_drewN | apply below_drew1 | refine below_set ?_ GE101.out) | exact HB.out)))); have n2_ := Aside0.mk (blk_below (g := gb101) (o := .cells #[.int .i64 x102000_2, .int .i64 x102001_2] 31 (0, 0)) (by (with_reducible repeat (first | refine blk_drewN ?_ _ | refine blk_drew ?_ | refine blk_alloc ?_ _)); exact BK101.out) hb); have n3_ := Aside0.mk (below_step (by repeat (first | (with_reducible first | exact HB.out | apply below_alloc | apply pw_below_drewN | apply below_drew1 | refine below_set ?_ GE101.out) | exact HB.out)) hb); clear HO_7; clear BK101; clear HB; have HO_7 := n0_; have HO116 := n1_; have BK101 := n2_; have HB := n3_; clear n0_ n1_ n2_ n3_; (try clear hb); (try clear hb2); (try clear hk); (try clear hi); (try clear ho0)) | ((with_reducible refine gate_dst (N := 17) rfl ?_); (try (refine gate_guard (by rfl) ?_; dsimp only)); refine box_event ?hg (N := 17) ?hd (cs := #[.int .i64 0, .int .i64 0]) (t := 31) ?hr ?_; (case hd => rfl); (case hg => rfl); (case hr => first | (go_simp; done) | (go_simp; rfl)); intro gb120 hg w63 hbox hb; have n0_ := Aside0.mk (Kd.R_below (by (with_reducible repeat (first | apply Kd.R_alloc | apply Kd.R_drewN | apply Kd.R_drew)); exact HO_7.out) hb); have n1_ := Aside0.mk (Kd.R_below (by (with_reducible repeat (first | apply Kd.R_alloc | apply Kd.R_drewN | apply Kd.R_drew)); exact HO116.out) hb); have n2_ := Aside0.mk (blk_below (g := gb101) (o := .cells #[.int .i64 x102000_2, .int .i64 x102001_2] 31 (0, 0)) (by (with_reducible repeat (first | refine blk_drewN ?_ _ | refine blk_drew ?_ | refine blk_alloc ?_ _)); exact BK101.out) hb); have n3_ := Aside0.mk (below_step (by repeat (first | (with_reducible first | exact HB.out | apply below_alloc | apply pw_below_drewN | apply below_drew1 | refine below_set ?_ GE101.out) | exact HB.out)) hb); have n4_ := Aside0.mk (hbox); have n5_ := Aside0.mk ((by rw [hg]; exact (below_size (by repeat (first | (with_reducible first | exact HB.out | apply below_alloc | apply pw_below_drewN | apply below_drew1 | refine below_set ?_ GE101.out) | exact HB.out))) : w.heap.size ≤ gb120)); have n6_ := Aside0.mk ((by rw [hg]; exact (below_size (by repeat (first | (with_reducible first | exact HB.out | apply below_alloc | apply pw_below_drewN | apply below_drew1 | refine below_set ?_ GE101.out) | exact HB.out))) : w.heap.size ≤ gb120)); have n7_ := Aside0.mk ((by rw [hg]; exact Nat.ne_of_lt (blk_lt (g := gb101) (o := .cells #[.int .i64 x102000_2, .int .i64 x102001_2] 31 (0, 0)) (by (with_reducible repeat (first | refine blk_drewN ?_ _ | refine blk_drew ?_ | refine blk_alloc ?_ _)); exact BK101.out)) : gb101 ≠ gb120)); have n8_ := Aside0.mk ((by rw [hg]; exact Nat.ne_of_gt (blk_lt (g := gb101) (o := .cells #[.int .i64 x102000_2, .int .i64 x102001_2] 31 (0, 0)) (by (with_reducible repeat (first | refine blk_drewN ?_ _ | refine blk_drew ?_ | refine blk_alloc ?_ _)); exact BK101.out)) : gb120 ≠ gb101)); clear HO_7; clear HO116; clear BK101; clear HB; have HO_7 := n0_; have HO116 := n1_; have BK101 := n2_; have HB := n3_; have BK120 := n4_; have GW120 := n5_; have GE120 := n6_; have NB101_120 := n7_; have NB120_101 := n8_; clear n0_ n1_ n2_ n3_ n4_ n5_ n6_ n7_ n8_; clear hb hbox hg; have hnb64 := NB120_101.out; have hnc64 := NB101_120.out; have hcz65_0 : w63.cell? ⟨gb120, 0, none⟩ = some (.int .i64 0) := (blk_cell BK120.out 0).trans rfl; have hcz65_1 : w63.cell? ⟨gb120, 1, none⟩ = some (.int .i64 0) := (blk_cell BK120.out 1).trans rfl; have hfz65_0 := blk_frozen BK120.out 0; have hfz65_1 := blk_frozen BK120.out 1; obtain ⟨Ao67, co67, eo67⟩ := Kd.R_slice HO116.out; subst eo67) | ((with_reducible refine gate_builtin (b := .append) (xs := #[.tmp 54, .tmp 55]) rfl ?_); (try (refine gate_guard (by rfl) ?_; dsimp only)); at_builtin; refine Kd.R_append_rows (Kd.int .u8) (w0 := w) w.heap.size rfl (.tmp 54) (.tmp 55) 22 5 (.int .u8 0) 1 rfl Try.underlying22 info5 rfl (by decide) (by omega) u7 x7_2 t114 _ _ _ (fun k_ => some k_ ≠ (.slice Ao67 t114.length co67 : Value).ownBlock) (fun _ => False) rfl rfl ?aO ?aR (fun _ _ h => h) (fun _ h => h.elim) ?aF ?aB ?aS ?aL ?_; (case aR => refine (Kd.R_reads' (e := 5) (base := w.heap.size) (ok := fun k_ => (True ∧ some k_ ≠ (u7 : Value).ownBlock)) (n := t114.length) (c := co67) ?_).2.2; exact (by (with_reducible repeat (first | apply Kd.R_alloc | apply Kd.R_drewN | apply Kd.R_drew)); exact (Kd.R_mono (Kd.R_far (p := ⟨gb120, 1, none⟩) (Kd.R_far (p := ⟨gb120, 0, none⟩) (Kd.R_types HO116.out BK120.out (by decide)) (fun _ hk => hk.2) (.int .i64 t118)) (fun _ hk => hk.2) (.int .i64 t119)) (fun _ h_ => h_.1)))); (case aB => exact (by repeat (first | (with_reducible first | exact HB.out | apply below_alloc | apply pw_below_drewN | apply below_drew1 | refine below_set ?_ GE101.out | refine below_set ?_ GE120.out) | exact HB.out))); (case aF => exact (fun k_ hk => Kd.fresh' (Kd.R_lt (by (with_reducible repeat (first | apply Kd.R_alloc | apply Kd.R_drewN | apply Kd.R_drew)); exact (Kd.R_mono (Kd.R_far (p := ⟨gb120, 1, none⟩) (Kd.R_far (p := ⟨gb120, 0, none⟩) (Kd.R_types HO116.out BK120.out (by decide)) (fun _ hk => hk.2) (.int .i64 t118)) (fun _ hk => hk.2) (.int .i64 t119)) (fun _ h_ => h_.1)))) k_ hk)); (case aO => exact (by (with_reducible repeat (first | apply Kd.R_alloc | apply Kd.R_drewN | apply Kd.R_drew)); exact Kd.R_mono (Kd.R_far (p := ⟨gb120, 1, none⟩) (Kd.R_far (p := ⟨gb120, 0, none⟩) (Kd.R_types HO_7.out BK120.out (by decide)) (fun _ hk => hk.2) (.int .i64 t118)) (fun _ hk => hk.2) (.int .i64 t119)) (fun _ hk => hk.1.2))); (case aS => exact (below_size (by repeat (first | (with_reducible first | exact HB.out | apply below_alloc | apply pw_below_drewN | apply below_drew1 | refine below_set ?_ GE101.out | refine below_set ?_ GE120.out) | exact HB.out)))); (case aL => have := LMc52.out; omega); intro v122 w66 ho hb hg hat; rw [← Ny121.out] at ho; have n0_ := Aside0.mk (blk_grown (g := gb101) (o := .cells #[.int .i64 x102000_2, .int .i64 x102001_2] 31 (0, 0)) (by (with_reducible repeat (first | refine blk_drewN ?_ _ | refine blk_drew ?_ | refine blk_alloc ?_ _)); refine blk_far ?_ NB101_120.out _; (with_reducible repeat (first | refine blk_drewN ?_ _ | refine blk_drew ?_ | refine blk_alloc ?_ _)); refine blk_far ?_ NB101_120.out _; (with_reducible repeat (first | refine blk_drewN ?_ _ | refine blk_drew ?_ | refine blk_alloc ?_ _)); exact BK101.out) hg (Kd.R_ne HO_7.out BK101.out (by decide))); have n1_ := Aside0.mk (Kd.R_after (ok := (fun _ => True)) (by (with_reducible repeat (first | apply Kd.R_alloc | apply Kd.R_drewN | apply Kd.R_drew)); exact Kd.R_mono (Kd.R_far (p := ⟨gb120, 1, none⟩) (Kd.R_far (p := ⟨gb120, 0, none⟩) (Kd.R_types HO116.out BK120.out (by decide)) (fun _ hk => hk.2) (.int .i64 t118)) (fun _ hk => hk.2) (.int .i64 t119)) (fun _ hk => ⟨trivial, hk.1.2⟩)) hg hat); have n2_ := Aside0.mk (blk_grown (g := gb120) (o := .cells #[.int .i64 t118, .int .i64 t119] 31 (0, 0)) (by (with_reducible repeat (first | refine blk_drewN ?_ _ | refine blk_drew ?_ | refine blk_alloc ?_ _)); refine blk_put (cs := #[.int .i64 t118, .int .i64 0]) ?_ 1 _ rfl; (with_reducible repeat (first | refine blk_drewN ?_ _ | refine blk_drew ?_ | refine blk_alloc ?_ _)); refine blk_put (cs := #[.int .i64 0, .int .i64 0]) ?_ 0 _ rfl; (with_reducible repeat (first | refine blk_drewN ?_ _ | refine blk_drew ?_ | refine blk_alloc ?_ _)); exact BK120.out) hg (Kd.R_ne HO_7.out BK120.out (by decide))); have n3_ := Aside0.mk (hb); have n4_ := Aside0.mk (ho); clear BK101; clear HO116; clear BK120; clear HB; clear HO_7; have BK101 := n0_; have HO116 := n1_; have BK120 := n2_; have HB := n3_; have HO123 := n4_; clear n0_ n1_ n2_ n3_ n4_; clear ho hb hg hat; obtain ⟨Ao68, co68, eo68⟩ := Kd.R_slice HO123.out; subst eo68))
                              go_roundg k2
                              case measure => have := HJ2.out; have := HK2.out; omega
                              case rel => exact ⟨(y121), (x8_2), (t117), (x10_2), (x102000_2), (x102001_2), (by first | rfl | (simp; done) | (simp [*]; done)), (by first | rfl | (simp; done) | (simp [*]; done)), (by first | rfl | (simp; done) | (simp [*]; done)), H', ⟨by have := HJ2.out; have := HK2.out; omega⟩, ⟨by (with_reducible repeat (first | apply Kd.R_alloc | apply Kd.R_drewN | apply Kd.R_drew)); exact Kd.R_mono HO123.out (fun _ hk => trivial)⟩, ⟨by (with_reducible repeat (first | refine blk_drewN ?_ _ | refine blk_drew ?_ | refine blk_alloc ?_ _)); exact BK101.out⟩, ⟨by repeat (first | (with_reducible first | exact HB.out | apply below_alloc | apply pw_below_drewN | apply below_drew1 | refine below_set ?_ GE101.out | refine below_set ?_ GE120.out) | exact HB.out)⟩⟩
                          · rw [if_neg c52] at H
                            exact absurd H (by simp)
                        · rw [if_neg c51] at H
                          have c51b0 : (t118 == 0) = false := beq_eq_false_iff_ne.mpr c51
                          have c51b1 : (t118 != 0) = true := bne_iff_ne.mpr c51
                          simp only [Option.some.injEq, Prod.mk.injEq] at H
                          obtain ⟨rfl, rfl, rfl, rfl⟩ := H
                          have p102 : 0 ≤ (x9_2 : Int) := of_decide_eq_true (by first | (with_reducible assumption) | assumption)
                          have q102 : x9_2 < (l0.length : Int) := of_decide_eq_true (by first | (with_reducible assumption) | assumption)
                          obtain ⟨ad102, e102, hx102_0⟩ := Kd.at_int HR0.out x9_2 p102 q102
                          cases e102
                          replace hx102_0 := (HB.out.cell (World.block_lt_of_cell? w _ hx102_0)).trans hx102_0
                          replace p102 := eq_true p102
                          replace q102 := eq_true q102
                          try go_wp2_with (first | ((with_reducible refine gate_callee (f := 39) rfl ?_); refine goesL_ (some 46) rfl rfl Try.func39 (by kernel_rfl) rfl #[.slice (some ad102) l0.length c0, .int .i64 x9_2, .int .i64 (wrap64 ((wrap64 (rd l0 x9_2)) + 1))] rfl (by (try simp only [List.map_toArray, List.map_cons, List.map_nil]); first | done | rfl | (simp only [List.length_drop, List.length_take]; rfl)) ?_; (with_reducible refine (octet_Bytes.calls k2 _ _ l0 x9_2 (wrap64 ((wrap64 (rd l0 x9_2)) + 1)) t114 t117 t118 t119 _ ?side1 ?side2 A50.out).mono ?_); (case side1 => repeat (first | exact (Kd.C_below HR0.out HB.out) | (with_reducible refine Kd.C_alloc ?_ _) | (with_reducible refine Kd.C_drewN ?_ _) | (with_reducible refine Kd.C_drew ?_))); (case side2 => exact HC0.out); rintro e w69 ⟨v115, rfl, ho0, hb⟩; refine ⟨_, rfl, ?_⟩; have n0_ := Aside0.mk (Kd.R_elder' (by (with_reducible repeat (first | apply Kd.R_alloc | apply Kd.R_drewN | apply Kd.R_drew)); exact HO_7.out) (Kd.R_base ho0) hb); have n1_ := Aside0.mk (Kd.R_lower (Kd.R_new' ho0 (Kd.R_lt (by (with_reducible repeat (first | apply Kd.R_alloc | apply Kd.R_drewN | apply Kd.R_drew)); exact HO_7.out))) (below_size (by repeat (first | (with_reducible first | exact HB.out | apply below_alloc | apply pw_below_drewN | apply below_drew1 | refine below_set ?_ GE101.out) | exact HB.out)))); have n2_ := Aside0.mk (blk_below (g := gb101) (o := .cells #[.int .i64 x102000_2, .int .i64 x102001_2] 31 (0, 0)) (by (with_reducible repeat (first | refine blk_drewN ?_ _ | refine blk_drew ?_ | refine blk_alloc ?_ _)); exact BK101.out) hb); have n3_ := Aside0.mk (below_step (by repeat (first | (with_reducible first | exact HB.out | apply below_alloc | apply pw_below_drewN | apply below_drew1 | refine below_set ?_ GE101.out) | exact HB.out)) hb); clear HO_7; clear BK101; clear HB; have HO_7 := n0_; have HO116 := n1_; have BK101 := n2_; have HB := n3_; clear n0_ n1_ n2_ n3_; (try clear hb); (try clear hb2); (try clear hk); (try clear hi); (try clear ho0)) | ((with_reducible refine gate_dst (N := 17) rfl ?_); (try (refine gate_guard (by rfl) ?_; dsimp only)); refine box_event ?hg (N := 17) ?hd (cs := #[.int .i64 0, .int .i64 0]) (t := 31) ?hr ?_; (case hd => rfl); (case hg => rfl); (case hr => first | (go_simp; done) | (go_simp; rfl)); intro gb120 hg w70 hbox hb; have n0_ := Aside0.mk (Kd.R_below (by (with_reducible repeat (first | apply Kd.R_alloc | apply Kd.R_drewN | apply Kd.R_drew)); exact HO_7.out) hb); have n1_ := Aside0.mk (Kd.R_below (by (with_reducible repeat (first | apply Kd.R_alloc | apply Kd.R_drewN | apply Kd.R_drew)); exact HO116.out) hb); have n2_ := Aside0.mk (blk_below (g := gb101) (o := .cells #[.int .i64 x102000_2, .int .i64 x102001_2] 31 (0, 0)) (by (with_reducible repeat (first | refine blk_drewN ?_ _ | refine blk_drew ?_ | refine blk_alloc ?_ _)); exact BK101.out) hb); have n3_ := Aside0.mk (below_step (by repeat (first | (with_reducible first | exact HB.out | apply below_alloc | apply pw_below_drewN | apply below_drew1 | refine below_set ?_ GE101.out) | exact HB.out)) hb); have n4_ := Aside0.mk (hbox); have n5_ := Aside0.mk ((by rw [hg]; exact (below_size (by repeat (first | (with_reducible first | exact HB.out | apply below_alloc | apply pw_below_drewN | apply below_drew1 | refine below_set ?_ GE101.out) | exact HB.out))) : w.heap.size ≤ gb120)); have n6_ := Aside0.mk ((by rw [hg]; exact (below_size (by repeat (first | (with_reducible first | exact HB.out | apply below_alloc | apply pw_below_drewN | apply below_drew1 | refine below_set ?_ GE101.out) | exact HB.out))) : w.heap.size ≤ gb120)); have n7_ := Aside0.mk ((by rw [hg]; exact Nat.ne_of_lt (blk_lt (g := gb101) (o := .cells #[.int .i64 x102000_2, .int .i64 x102001_2] 31 (0, 0)) (by (with_reducible repeat (first | refine blk_drewN ?_ _ | refine blk_drew ?_ | refine blk_alloc ?_ _)); exact BK101.out)) : gb101 ≠ gb120)); have n8_ := Aside0.mk ((by rw [hg]; exact Nat.ne_of_gt (blk_lt (g := gb101) (o := .cells #[.int .i64 x102000_2, .int .i64 x102001_2] 31 (0, 0)) (by (with_reducible repeat (first | refine blk_drewN ?_ _ | refine blk_drew ?_ | refine blk_alloc ?_ _)); exact BK101.out)) : gb120 ≠ gb101)); clear HO_7; clear HO116; clear BK101; clear HB; have HO_7 := n0_; have HO116 := n1_; have BK101 := n2_; have HB := n3_; have BK120 := n4_; have GW120 := n5_; have GE120 := n6_; have NB101_120 := n7_; have NB120_101 := n8_; clear n0_ n1_ n2_ n3_ n4_ n5_ n6_ n7_ n8_; clear hb hbox hg; have hnb71 := NB120_101.out; have hnc71 := NB101_120.out; have hcz72_0 : w70.cell? ⟨gb120, 0, none⟩ = some (.int .i64 0) := (blk_cell BK120.out 0).trans rfl; have hcz72_1 : w70.cell? ⟨gb120, 1, none⟩ = some (.int .i64 0) := (blk_cell BK120.out 1).trans rfl; have hfz72_0 := blk_frozen BK120.out 0; have hfz72_1 := blk_frozen BK120.out 1))
                          have n0_ : Aside0 (Kd.R (Kd.int .u8) 5 ((w70.setCell ⟨gb120, 0, none⟩ (.int .i64 t118)).setCell ⟨gb120, 1, none⟩ (.int .i64 t119)) w.heap.size (fun k_ => some k_ ≠ (v115 : Value).ownBlock) u7 x7_2) := ⟨by (with_reducible repeat (first | apply Kd.R_alloc | apply Kd.R_drewN | apply Kd.R_drew)); exact Kd.R_mono (Kd.R_far (p := ⟨gb120, 1, none⟩) (Kd.R_far (p := ⟨gb120, 0, none⟩) (Kd.R_types HO_7.out BK120.out (by decide)) (fun _ hk => hk.2) (.int .i64 t118)) (fun _ hk => hk.2) (.int .i64 t119)) (fun _ hk => hk.1.2)⟩
                          have n1_ : Aside0 (Kd.R (Kd.int .u8) 5 ((w70.setCell ⟨gb120, 0, none⟩ (.int .i64 t118)).setCell ⟨gb120, 1, none⟩ (.int .i64 t119)) w.heap.size (fun k_ => some k_ ≠ (u7 : Value).ownBlock) v115 t114) := ⟨by (with_reducible repeat (first | apply Kd.R_alloc | apply Kd.R_drewN | apply Kd.R_drew)); exact Kd.R_mono (Kd.R_far (p := ⟨gb120, 1, none⟩) (Kd.R_far (p := ⟨gb120, 0, none⟩) (Kd.R_types HO116.out BK120.out (by decide)) (fun _ hk => hk.2) (.int .i64 t118)) (fun _ hk => hk.2) (.int .i64 t119)) (fun _ hk => hk.1.2)⟩
                          have n2_ : Aside0 (((w70.setCell ⟨gb120, 0, none⟩ (.int .i64 t118)).setCell ⟨gb120, 1, none⟩ (.int .i64 t119)).heap[gb101]? = some (.cells #[.int .i64 x102000_2, .int .i64 x102001_2] 31 (0, 0))) := ⟨by (with_reducible repeat (first | refine blk_drewN ?_ _ | refine blk_drew ?_ | refine blk_alloc ?_ _)); refine blk_far ?_ NB101_120.out _; (with_reducible repeat (first | refine blk_drewN ?_ _ | refine blk_drew ?_ | refine blk_alloc ?_ _)); refine blk_far ?_ NB101_120.out _; (with_reducible repeat (first | refine blk_drewN ?_ _ | refine blk_drew ?_ | refine blk_alloc ?_ _)); exact BK101.out⟩
                          have n3_ : Aside0 (((w70.setCell ⟨gb120, 0, none⟩ (.int .i64 t118)).setCell ⟨gb120, 1, none⟩ (.int .i64 t119)).heap[gb120]? = some (.cells #[.int .i64 t118, .int .i64 t119] 31 (0, 0))) := ⟨by (with_reducible repeat (first | refine blk_drewN ?_ _ | refine blk_drew ?_ | refine blk_alloc ?_ _)); refine blk_put (cs := #[.int .i64 t118, .int .i64 0]) ?_ 1 _ rfl; (with_reducible repeat (first | refine blk_drewN ?_ _ | refine blk_drew ?_ | refine blk_alloc ?_ _)); refine blk_put (cs := #[.int .i64 0, .int .i64 0]) ?_ 0 _ rfl; (with_reducible repeat (first | refine blk_drewN ?_ _ | refine blk_drew ?_ | refine blk_alloc ?_ _)); exact BK120.out⟩
                          have n4_ : Aside0 (Below w.heap.size w ((w70.setCell ⟨gb120, 0, none⟩ (.int .i64 t118)).setCell ⟨gb120, 1, none⟩ (.int .i64 t119))) := ⟨by repeat (first | (with_reducible first | exact HB.out | apply below_alloc | apply pw_below_drewN | apply below_drew1 | refine below_set ?_ GE101.out | refine below_set ?_ GE120.out) | exact HB.out)⟩
                          (try clear HO_7)
                          (try clear HO116)
                          (try clear BK101)
                          (try clear BK120)
                          (try clear HB)
                          generalize ((w70.setCell ⟨gb120, 0, none⟩ (.int .i64 t118)).setCell ⟨gb120, 1, none⟩ (.int .i64 t119)) = w73 at n0_ n1_ n2_ n3_ n4_ ⊢
                          have HO_7 := n0_
                          have HO116 := n1_
                          have BK101 := n2_
                          have BK120 := n3_
                          have HB := n4_
                          clear n0_ n1_ n2_ n3_ n4_
                          have n0_ := Aside0.mk (Kd.R_drew HO_7.out)
                          have n1_ := Aside0.mk (Kd.R_drew HO116.out)
                          have n2_ := Aside0.mk (blk_drew BK101.out)
                          have n3_ := Aside0.mk (blk_drew BK120.out)
                          have n4_ := Aside0.mk (below_drew1 HB.out)
                          clear HO_7
                          clear HO116
                          clear BK101
                          clear BK120
                          clear HB
                          have HO_7 := n0_
                          have HO116 := n1_
                          have BK101 := n2_
                          have BK120 := n3_
                          have HB := n4_
                          clear n0_ n1_ n2_ n3_ n4_
                          refine start_ (n := 4) (S := fun w' => w'.cell? ⟨gb120, 0, none⟩ = some (.int .i64 t118) ∧ w'.cell? ⟨gb120, 1, none⟩ = some (.int .i64 t119)) (ds := []) #[false, false, false, false] (by kernel_rfl) rfl rfl ⟨(blk_cell BK120.out 0).trans rfl, (blk_cell BK120.out 1).trans rfl⟩ (fun hHeld => ?_)
                          generalize w73.drew = w74 at HO_7 HO116 BK101 BK120 HB hHeld ⊢
                          refine pure_ (i := 1) (N := some 4) (v := ?_) (a' := ?_) #[false, true, false, false] rfl rfl (by kernel_rfl) (fun _ _ _ h => h) (Or.inl ⟨by rfl, ?_⟩) ?_ ?_
                          rotate_left
                          · intro w'
                            go_simp
                            with_reducible rfl
                          rotate_left
                          · simp only [Act.put, List.setIfInBounds_toArray, List.set_cons_zero, List.set_cons_succ, i64_w, i32_w]
                            rfl
                          refine pure_ (i := 2) (N := some 5) (v := ?_) (a' := ?_) #[false, true, true, false] rfl rfl (by kernel_rfl) (fun _ _ _ h => h) (Or.inl ⟨by rfl, ?_⟩) ?_ ?_
                          rotate_left
                          · intro w'
                            go_simp
                            with_reducible rfl
                          rotate_left
                          · simp only [Act.put, List.setIfInBounds_toArray, List.set_cons_zero, List.set_cons_succ, i64_w, i32_w]
                            rfl
                          refine take_ (i := 0) (N := some 53) (v := ?_) (a' := ?_) #[true, true, true, false] rfl rfl (by kernel_rfl) (fun _ _ _ h => h) (Or.inl ⟨by rfl, ?_⟩) hHeld ?_ ?_
                          rotate_left
                          · rintro w' ⟨s0, s1⟩
                            go_simp
                            with_reducible rfl
                          rotate_left
                          · simp only [Act.put, List.setIfInBounds_toArray, List.set_cons_zero, List.set_cons_succ, i64_w, i32_w]
                            rfl
                          refine one_ (i := 3) (N := none) #[true, true, true, true] rfl rfl (by kernel_rfl) (by decide) (fun K hK => ?_)
                          have hs75 : w74.cell? ⟨gb101, 0, none⟩ = some (.int .i64 x102000_2) := (blk_cell BK101.out 0).trans rfl
                          have hfs75 := blk_frozen BK101.out 0
                          have hns75_1 := NB120_101.out
                          have hms75_1 := NB101_120.out
                          have hs76 : w74.cell? ⟨gb101, 1, none⟩ = some (.int .i64 x102001_2) := (blk_cell BK101.out 1).trans rfl
                          have hfs76 := blk_frozen BK101.out 1
                          have hns76_1 := NB120_101.out
                          have hms76_1 := NB101_120.out
                          refine skip_ (w1 := ?_) (by rfl) rfl ?_ ?_
                          rotate_left
                          · go_simp
                            rfl
                          refine hK.out _ _ ⟨((cell_far (p := ⟨gb101, _, none⟩) NB120_101.out _).trans (((cell_far (p := ⟨gb101, _, none⟩) NB120_101.out _).trans (hHeld.1)))), ((cell_far (p := ⟨gb101, _, none⟩) NB120_101.out _).trans (((cell_far (p := ⟨gb101, _, none⟩) NB120_101.out _).trans (hHeld.2))))⟩ (fun hHeld => ?_)
                          clear hK K
                          refine done_ (by kernel_rfl) ?_
                          try go_wp2
                          (try rw [Exit.noGoto_ret])
                          refine bodyPost_ret (results_list (rs := [.tmp 4, .tmp 5, .cell 6 31]) rfl (by simp) (.tmp (.tmp (.cell gb101 31 #[.int .i64 t118, .int .i64 t119] (0, 0) _ rfl (by (with_reducible repeat (first | refine blk_drewN ?_ _ | refine blk_drew ?_ | refine blk_alloc ?_ _)); refine blk_put (cs := #[.int .i64 t118, .int .i64 x102001_2]) ?_ 1 _ rfl; (with_reducible repeat (first | refine blk_drewN ?_ _ | refine blk_drew ?_ | refine blk_alloc ?_ _)); refine blk_put (cs := #[.int .i64 x102000_2, .int .i64 x102001_2]) ?_ 0 _ rfl; (with_reducible repeat (first | refine blk_drewN ?_ _ | refine blk_drew ?_ | refine blk_alloc ?_ _)); exact BK101.out) Try.underlying31 rfl (by kernel_rfl) .nil)))) rfl ?_
                          exact ⟨by first | rfl | (simp [errW_none, errW_some] <;> rfl) | (simp [*, errW_none, errW_some] <;> rfl), by repeat (first | (with_reducible first | exact HB.out | apply below_alloc | apply pw_below_drewN | apply below_drew1 | refine below_set ?_ GE101.out | refine below_set ?_ GE120.out) | exact HB.out)⟩
                · rw [if_neg c11] at H
                  exact absurd H (by simp)
              · rw [if_neg c10] at H
                exact absurd H (by simp)

end Go.Proofs.Ytjjbhpbmfpodeaa.X
end
section
namespace Go.Proofs.Ytjjbhpbmfpodeaa.X
open Go.RowKit Go.Proofs.YtjjbhpbmfpodeaaW.PrintWords Go.Proofs.YtjjbhpbmfpodeaaW.PrintLast Go.Proofs.YtjjbhpbmfpodeaaW.PrintMore
attribute [local go_sem] max2_int min2_int max_two min_two max_three min_three max_four min_four   -- for this text's walks alone
set_option linter.unusedVariables false
set_option linter.unusedSimpArgs false

/-! ### ostiarylaw05_awake: function 47 -/
def ostiarylaw05_awake.f (k : Nat)  : Option (Bool) := (wire_Read.f k (([1, 97, 0, 1, 98, 192, 0] : List Int)) 3).bind fun bt104 => (if bt104.1.toList = ([1, 98, 1, 97, 0] : List UInt8) then (if bt104.2.1 = 7 then (some (bt104.2.2.1 == 0)) else (some false)) else (some false))
theorem ostiarylaw05_awake.mono : ∀ k, LeO (ostiarylaw05_awake.f k ) (ostiarylaw05_awake.f (k + 1) ) := by
  intro  k
  unfold ostiarylaw05_awake.f
  repeat' first
      | (with_reducible exact wire_Read.mono _ _ _)
      | (with_reducible exact LeO.refl _)
      | (with_reducible exact LeO.none _)
      | (with_reducible refine LeO.ite ?_ ?_)
      | (with_reducible refine LeO.bind ?_ (fun _ => ?_))
      | exact wire_Read.mono _ _ _
      | exact LeO.none _
      | refine LeO.ite ?_ ?_
      | refine LeO.bind ?_ (fun _ => ?_)
set_option maxHeartbeats 8000000 in
set_option maxRecDepth 100000 in
theorem ostiarylaw05_awake.calls (k : Nat)  (r : Bool) (w : World) (h : ostiarylaw05_awake.f k  = some r) :
    Calls Try.prog 47 #[] w fun e w' => e = .returned (.bool r) ∧ Below w.heap.size w w' := by
  have hu31 := Try.underlying31
  have HB := Aside0.mk (Below.refl w.heap.size w)
  have H : ((wire_Read.f k (([1, 97, 0, 1, 98, 192, 0] : List Int)) 3).bind fun bt104 => (if bt104.1.toList = ([1, 98, 1, 97, 0] : List UInt8) then (if bt104.2.1 = 7 then (some (bt104.2.2.1 == 0)) else (some false)) else (some false))) = some r := h
  clear h
  obtain ⟨y101, hy101⟩ : ∃ y_ : List Int, y_ = (([1, 97, 0, 1, 98, 192, 0] : List Int)) := ⟨_, rfl⟩
  replace H : ((wire_Read.f k y101 3).bind fun bt104 => (if bt104.1.toList = ([1, 98, 1, 97, 0] : List UInt8) then (if bt104.2.1 = 7 then (some (bt104.2.2.1 == 0)) else (some false)) else (some false))) = some r := by first | (rw [hy101]; with_reducible exact H) | (have H2_ := (Option.bind_some _ _).symm.trans H; rw [hy101]; with_reducible exact H2_) | (have H2_ := (Option.bind_some _ _).symm.trans H; with_reducible exact H2_) | with_reducible exact H | (rw [hy101]; exact H) | exact H
  have Ny101 := Aside0.mk hy101
  clear hy101
  replace H := Option.bind_eq_some_iff.mp H
  obtain ⟨⟨t104, t105, t106, t107⟩, A10, H⟩ := H
  replace H : (if t104.toList = ([1, 98, 1, 97, 0] : List UInt8) then (if t105 = 7 then (some (t106 == 0)) else (some false)) else (some false)) = some r := H
  have A1 := Aside0.mk A10
  clear A10
  by_cases c2 : t104.toList = ([1, 98, 1, 97, 0] : List UInt8)
  · rw [if_pos c2] at H
    have c2b0 : (t104.toList == ([1, 98, 1, 97, 0] : List UInt8)) = true := beq_iff_eq.mpr c2
    have c2b1 : (t104.toList != ([1, 98, 1, 97, 0] : List UInt8)) = false := bne_eq_false_iff_eq.mpr c2
    clear c2
    by_cases c3 : t105 = 7
    · rw [if_pos c3] at H
      have c3b0 : (t105 == 7) = true := beq_iff_eq.mpr c3
      have c3b1 : (t105 != 7) = false := bne_eq_false_iff_eq.mpr c3
      clear c3
      obtain rfl := Option.some.inj H
      go_enter Try.func47, Try.ntmps47
      go_wp2_with (first | ((with_reducible refine gate_dst (N := 5) rfl ?_); refine Kd.R_lit (Kd.int .u8) _ 5 ?hg (N := 5) ?hd (xs := ([1, 97, 0, 1, 98, 192, 0] : List Int)) (inner := [.int .u8 1, .int .u8 97, .int .u8 0, .int .u8 1, .int .u8 98, .int .u8 192, .int .u8 0]) (ok := fun _ => True) (okp := fun _ => True) ?hr ?hp (fun _ hk => hk) trivial (Below.refl _ _) (Nat.le_refl _) (by simp) ?_; (case hd => rfl); (case hg => rfl); (case hr => first | (go_simp; done) | (go_simp; rfl)); (case hp => exact (Reps.one (show Kd.M (Kd.int .u8) _ _ _ 1 [.int .u8 1] from rfl) (Reps.one (show Kd.M (Kd.int .u8) _ _ _ 97 [.int .u8 97] from rfl) (Reps.one (show Kd.M (Kd.int .u8) _ _ _ 0 [.int .u8 0] from rfl) (Reps.one (show Kd.M (Kd.int .u8) _ _ _ 1 [.int .u8 1] from rfl) (Reps.one (show Kd.M (Kd.int .u8) _ _ _ 98 [.int .u8 98] from rfl) (Reps.one (show Kd.M (Kd.int .u8) _ _ _ 192 [.int .u8 192] from rfl) (Reps.one (show Kd.M (Kd.int .u8) _ _ _ 0 [.int .u8 0] from rfl) (Reps.none _ _))))))))); intro v102 w4 ho5 hb hg_ hnew_; clear hg_ hnew_; (first | rw [← Ny101.out] at ho5 | (simp only [Int.reduceToNat] at ho5; rw [← Ny101.out] at ho5)); have n0_ := Aside0.mk (Kd.R_lower ho5 (below_size (by repeat (first | (with_reducible first | exact HB.out | apply below_alloc | apply pw_below_drewN | apply below_drew1) | exact HB.out)))); have n1_ := Aside0.mk (below_step (by repeat (first | (with_reducible first | exact HB.out | apply below_alloc | apply pw_below_drewN | apply below_drew1) | exact HB.out)) hb); clear HB; have HO103 := n0_; have HB := n1_; clear n0_ n1_; clear hb ho5; obtain ⟨Ao6, co6, eo6⟩ := Kd.R_slice HO103.out; subst eo6) | ((with_reducible refine gate_callee (f := 45) rfl ?_); refine goesL_ (some 6) rfl rfl Try.func45 (by kernel_rfl) rfl #[.slice Ao6 y101.length co6, .int .i64 3] rfl (by (try simp only [List.map_toArray, List.map_cons, List.map_nil]); first | done | rfl | (simp only [List.length_drop, List.length_take]; rfl)) ?_; (with_reducible refine (wire_Read.calls k _ _ y101 3 t104 t105 t106 t107 _ ?side1 ?side2 A1.out).mono ?_); (case side1 => repeat (first | exact (Kd.R_reads' HO103.out).2.2 | (with_reducible refine Kd.C_alloc ?_ _) | (with_reducible refine Kd.C_drewN ?_ _) | (with_reducible refine Kd.C_drew ?_))); (case side2 => exact (Kd.R_reads' HO103.out).2.1); rintro e w7 ⟨rfl, hb⟩; refine ⟨_, rfl, ?_⟩; have n0_ := Aside0.mk (Kd.R_below (by (with_reducible repeat (first | apply Kd.R_alloc | apply Kd.R_drewN | apply Kd.R_drew)); exact HO103.out) hb); have n1_ := Aside0.mk (below_step (by repeat (first | (with_reducible first | exact HB.out | apply below_alloc | apply pw_below_drewN | apply below_drew1) | exact HB.out)) hb); clear HO103; clear HB; have HO103 := n0_; have HB := n1_; clear n0_ n1_; (try clear hb); (try clear hb2); (try clear hk); (try clear hi)) | ((with_reducible refine gate_dst (N := 3) rfl ?_); refine box_event ?hg (N := 3) ?hd (cs := #[.int .i64 0, .int .i64 0]) (t := 31) ?hr ?_; (case hd => rfl); (case hg => rfl); (case hr => first | (go_simp; done) | (go_simp; rfl)); intro gb108 hg w8 hbox hb; have n0_ := Aside0.mk (Kd.R_below (by (with_reducible repeat (first | apply Kd.R_alloc | apply Kd.R_drewN | apply Kd.R_drew)); exact HO103.out) hb); have n1_ := Aside0.mk (below_step (by repeat (first | (with_reducible first | exact HB.out | apply below_alloc | apply pw_below_drewN | apply below_drew1) | exact HB.out)) hb); have n2_ := Aside0.mk (hbox); have n3_ := Aside0.mk ((by rw [hg]; exact (below_size (by repeat (first | (with_reducible first | exact HB.out | apply below_alloc | apply pw_below_drewN | apply below_drew1) | exact HB.out))) : w.heap.size ≤ gb108)); have n4_ := Aside0.mk ((by rw [hg]; exact (below_size (by repeat (first | (with_reducible first | exact HB.out | apply below_alloc | apply pw_below_drewN | apply below_drew1) | exact HB.out))) : w.heap.size ≤ gb108)); clear HO103; clear HB; have HO103 := n0_; have HB := n1_; have BK108 := n2_; have GW108 := n3_; have GE108 := n4_; clear n0_ n1_ n2_ n3_ n4_; clear hb hbox hg; have hcz9_0 : w8.cell? ⟨gb108, 0, none⟩ = some (.int .i64 0) := (blk_cell BK108.out 0).trans rfl; have hcz9_1 : w8.cell? ⟨gb108, 1, none⟩ = some (.int .i64 0) := (blk_cell BK108.out 1).trans rfl; have hfz9_0 := blk_frozen BK108.out 0; have hfz9_1 := blk_frozen BK108.out 1))
      go_ret
      exact ⟨by first | rfl | (simp [errW_none, errW_some] <;> rfl) | (simp [*, errW_none, errW_some] <;> rfl), by repeat (first | (with_reducible first | exact HB.out | apply below_alloc | apply pw_below_drewN | apply below_drew1 | refine below_set ?_ GE108.out) | exact HB.out)⟩
    · rw [if_neg c3] at H
      have c3b0 : (t105 == 7) = false := beq_eq_false_iff_ne.mpr c3
      have c3b1 : (t105 != 7) = true := bne_iff_ne.mpr c3
      obtain rfl := Option.some.inj H
      go_enter Try.func47, Try.ntmps47
      go_wp2_with (first | ((with_reducible refine gate_dst (N := 5) rfl ?_); refine Kd.R_lit (Kd.int .u8) _ 5 ?hg (N := 5) ?hd (xs := ([1, 97, 0, 1, 98, 192, 0] : List Int)) (inner := [.int .u8 1, .int .u8 97, .int .u8 0, .int .u8 1, .int .u8 98, .int .u8 192, .int .u8 0]) (ok := fun _ => True) (okp := fun _ => True) ?hr ?hp (fun _ hk => hk) trivial (Below.refl _ _) (Nat.le_refl _) (by simp) ?_; (case hd => rfl); (case hg => rfl); (case hr => first | (go_simp; done) | (go_simp; rfl)); (case hp => exact (Reps.one (show Kd.M (Kd.int .u8) _ _ _ 1 [.int .u8 1] from rfl) (Reps.one (show Kd.M (Kd.int .u8) _ _ _ 97 [.int .u8 97] from rfl) (Reps.one (show Kd.M (Kd.int .u8) _ _ _ 0 [.int .u8 0] from rfl) (Reps.one (show Kd.M (Kd.int .u8) _ _ _ 1 [.int .u8 1] from rfl) (Reps.one (show Kd.M (Kd.int .u8) _ _ _ 98 [.int .u8 98] from rfl) (Reps.one (show Kd.M (Kd.int .u8) _ _ _ 192 [.int .u8 192] from rfl) (Reps.one (show Kd.M (Kd.int .u8) _ _ _ 0 [.int .u8 0] from rfl) (Reps.none _ _))))))))); intro v102 w10 ho11 hb hg_ hnew_; clear hg_ hnew_; (first | rw [← Ny101.out] at ho11 | (simp only [Int.reduceToNat] at ho11; rw [← Ny101.out] at ho11)); have n0_ := Aside0.mk (Kd.R_lower ho11 (below_size (by repeat (first | (with_reducible first | exact HB.out | apply below_alloc | apply pw_below_drewN | apply below_drew1) | exact HB.out)))); have n1_ := Aside0.mk (below_step (by repeat (first | (with_reducible first | exact HB.out | apply below_alloc | apply pw_below_drewN | apply below_drew1) | exact HB.out)) hb); clear HB; have HO103 := n0_; have HB := n1_; clear n0_ n1_; clear hb ho11; obtain ⟨Ao12, co12, eo12⟩ := Kd.R_slice HO103.out; subst eo12) | ((with_reducible refine gate_callee (f := 45) rfl ?_); refine goesL_ (some 6) rfl rfl Try.func45 (by kernel_rfl) rfl #[.slice Ao12 y101.length co12, .int .i64 3] rfl (by (try simp only [List.map_toArray, List.map_cons, List.map_nil]); first | done | rfl | (simp only [List.length_drop, List.length_take]; rfl)) ?_; (with_reducible refine (wire_Read.calls k _ _ y101 3 t104 t105 t106 t107 _ ?side1 ?side2 A1.out).mono ?_); (case side1 => repeat (first | exact (Kd.R_reads' HO103.out).2.2 | (with_reducible refine Kd.C_alloc ?_ _) | (with_reducible refine Kd.C_drewN ?_ _) | (with_reducible refine Kd.C_drew ?_))); (case side2 => exact (Kd.R_reads' HO103.out).2.1); rintro e w13 ⟨rfl, hb⟩; refine ⟨_, rfl, ?_⟩; have n0_ := Aside0.mk (Kd.R_below (by (with_reducible repeat (first | apply Kd.R_alloc | apply Kd.R_drewN | apply Kd.R_drew)); exact HO103.out) hb); have n1_ := Aside0.mk (below_step (by repeat (first | (with_reducible first | exact HB.out | apply below_alloc | apply pw_below_drewN | apply below_drew1) | exact HB.out)) hb); clear HO103; clear HB; have HO103 := n0_; have HB := n1_; clear n0_ n1_; (try clear hb); (try clear hb2); (try clear hk); (try clear hi)) | ((with_reducible refine gate_dst (N := 3) rfl ?_); refine box_event ?hg (N := 3) ?hd (cs := #[.int .i64 0, .int .i64 0]) (t := 31) ?hr ?_; (case hd => rfl); (case hg => rfl); (case hr => first | (go_simp; done) | (go_simp; rfl)); intro gb108 hg w14 hbox hb; have n0_ := Aside0.mk (Kd.R_below (by (with_reducible repeat (first | apply Kd.R_alloc | apply Kd.R_drewN | apply Kd.R_drew)); exact HO103.out) hb); have n1_ := Aside0.mk (below_step (by repeat (first | (with_reducible first | exact HB.out | apply below_alloc | apply pw_below_drewN | apply below_drew1) | exact HB.out)) hb); have n2_ := Aside0.mk (hbox); have n3_ := Aside0.mk ((by rw [hg]; exact (below_size (by repeat (first | (with_reducible first | exact HB.out | apply below_alloc | apply pw_below_drewN | apply below_drew1) | exact HB.out))) : w.heap.size ≤ gb108)); have n4_ := Aside0.mk ((by rw [hg]; exact (below_size (by repeat (first | (with_reducible first | exact HB.out | apply below_alloc | apply pw_below_drewN | apply below_drew1) | exact HB.out))) : w.heap.size ≤ gb108)); clear HO103; clear HB; have HO103 := n0_; have HB := n1_; have BK108 := n2_; have GW108 := n3_; have GE108 := n4_; clear n0_ n1_ n2_ n3_ n4_; clear hb hbox hg; have hcz15_0 : w14.cell? ⟨gb108, 0, none⟩ = some (.int .i64 0) := (blk_cell BK108.out 0).trans rfl; have hcz15_1 : w14.cell? ⟨gb108, 1, none⟩ = some (.int .i64 0) := (blk_cell BK108.out 1).trans rfl; have hfz15_0 := blk_frozen BK108.out 0; have hfz15_1 := blk_frozen BK108.out 1))
      go_ret
      exact ⟨by first | rfl | (simp [errW_none, errW_some] <;> rfl) | (simp [*, errW_none, errW_some] <;> rfl), by repeat (first | (with_reducible first | exact HB.out | apply below_alloc | apply pw_below_drewN | apply below_drew1 | refine below_set ?_ GE108.out) | exact HB.out)⟩
  · rw [if_neg c2] at H
    have c2b0 : (t104.toList == ([1, 98, 1, 97, 0] : List UInt8)) = false := beq_eq_false_iff_ne.mpr c2
    have c2b1 : (t104.toList != ([1, 98, 1, 97, 0] : List UInt8)) = true := bne_iff_ne.mpr c2
    obtain rfl := Option.some.inj H
    go_enter Try.func47, Try.ntmps47
    go_wp2_with (first | ((with_reducible refine gate_dst (N := 5) rfl ?_); refine Kd.R_lit (Kd.int .u8) _ 5 ?hg (N := 5) ?hd (xs := ([1, 97, 0, 1, 98, 192, 0] : List Int)) (inner := [.int .u8 1, .int .u8 97, .int .u8 0, .int .u8 1, .int .u8 98, .int .u8 192, .int .u8 0]) (ok := fun _ => True) (okp := fun _ => True) ?hr ?hp (fun _ hk => hk) trivial (Below.refl _ _) (Nat.le_refl _) (by simp) ?_; (case hd => rfl); (case hg => rfl); (case hr => first | (go_simp; done) | (go_simp; rfl)); (case hp => exact (Reps.one (show Kd.M (Kd.int .u8) _ _ _ 1 [.int .u8 1] from rfl) (Reps.one (show Kd.M (Kd.int .u8) _ _ _ 97 [.int .u8 97] from rfl) (Reps.one (show Kd.M (Kd.int .u8) _ _ _ 0 [.int .u8 0] from rfl) (Reps.one (show Kd.M (Kd.int .u8) _ _ _ 1 [.int .u8 1] from rfl) (Reps.one (show Kd.M (Kd.int .u8) _ _ _ 98 [.int .u8 98] from rfl) (Reps.one (show Kd.M (Kd.int .u8) _ _ _ 192 [.int .u8 192] from rfl) (Reps.one (show Kd.M (Kd.int .u8) _ _ _ 0 [.int .u8 0] from rfl) (Reps.none _ _))))))))); intro v102 w16 ho17 hb hg_ hnew_; clear hg_ hnew_; (first | rw [← Ny101.out] at ho17 | (simp only [Int.reduceToNat] at ho17; rw [← Ny101.out] at ho17)); have n0_ := Aside0.mk (Kd.R_lower ho17 (below_size (by repeat (first | (with_reducible first | exact HB.out | apply below_alloc | apply pw_below_drewN | apply below_drew1) | exact HB.out)))); have n1_ := Aside0.mk (below_step (by repeat (first | (with_reducible first | exact HB.out | apply below_alloc | apply pw_below_drewN | apply below_drew1) | exact HB.out)) hb); clear HB; have HO103 := n0_; have HB := n1_; clear n0_ n1_; clear hb ho17; obtain ⟨Ao18, co18, eo18⟩ := Kd.R_slice HO103.out; subst eo18) | ((with_reducible refine gate_callee (f := 45) rfl ?_); refine goesL_ (some 6) rfl rfl Try.func45 (by kernel_rfl) rfl #[.slice Ao18 y101.length co18, .int .i64 3] rfl (by (try simp only [List.map_toArray, List.map_cons, List.map_nil]); first | done | rfl | (simp only [List.length_drop, List.length_take]; rfl)) ?_; (with_reducible refine (wire_Read.calls k _ _ y101 3 t104 t105 t106 t107 _ ?side1 ?side2 A1.out).mono ?_); (case side1 => repeat (first | exact (Kd.R_reads' HO103.out).2.2 | (with_reducible refine Kd.C_alloc ?_ _) | (with_reducible refine Kd.C_drewN ?_ _) | (with_reducible refine Kd.C_drew ?_))); (case side2 => exact (Kd.R_reads' HO103.out).2.1); rintro e w19 ⟨rfl, hb⟩; refine ⟨_, rfl, ?_⟩; have n0_ := Aside0.mk (Kd.R_below (by (with_reducible repeat (first | apply Kd.R_alloc | apply Kd.R_drewN | apply Kd.R_drew)); exact HO103.out) hb); have n1_ := Aside0.mk (below_step (by repeat (first | (with_reducible first | exact HB.out | apply below_alloc | apply pw_below_drewN | apply below_drew1) | exact HB.out)) hb); clear HO103; clear HB; have HO103 := n0_; have HB := n1_; clear n0_ n1_; (try clear hb); (try clear hb2); (try clear hk); (try clear hi)) | ((with_reducible refine gate_dst (N := 3) rfl ?_); refine box_event ?hg (N := 3) ?hd (cs := #[.int .i64 0, .int .i64 0]) (t := 31) ?hr ?_; (case hd => rfl); (case hg => rfl); (case hr => first | (go_simp; done) | (go_simp; rfl)); intro gb108 hg w20 hbox hb; have n0_ := Aside0.mk (Kd.R_below (by (with_reducible repeat (first | apply Kd.R_alloc | apply Kd.R_drewN | apply Kd.R_drew)); exact HO103.out) hb); have n1_ := Aside0.mk (below_step (by repeat (first | (with_reducible first | exact HB.out | apply below_alloc | apply pw_below_drewN | apply below_drew1) | exact HB.out)) hb); have n2_ := Aside0.mk (hbox); have n3_ := Aside0.mk ((by rw [hg]; exact (below_size (by repeat (first | (with_reducible first | exact HB.out | apply below_alloc | apply pw_below_drewN | apply below_drew1) | exact HB.out))) : w.heap.size ≤ gb108)); have n4_ := Aside0.mk ((by rw [hg]; exact (below_size (by repeat (first | (with_reducible first | exact HB.out | apply below_alloc | apply pw_below_drewN | apply below_drew1) | exact HB.out))) : w.heap.size ≤ gb108)); clear HO103; clear HB; have HO103 := n0_; have HB := n1_; have BK108 := n2_; have GW108 := n3_; have GE108 := n4_; clear n0_ n1_ n2_ n3_ n4_; clear hb hbox hg; have hcz21_0 : w20.cell? ⟨gb108, 0, none⟩ = some (.int .i64 0) := (blk_cell BK108.out 0).trans rfl; have hcz21_1 : w20.cell? ⟨gb108, 1, none⟩ = some (.int .i64 0) := (blk_cell BK108.out 1).trans rfl; have hfz21_0 := blk_frozen BK108.out 0; have hfz21_1 := blk_frozen BK108.out 1))
    go_ret
    exact ⟨by first | rfl | (simp [errW_none, errW_some] <;> rfl) | (simp [*, errW_none, errW_some] <;> rfl), by repeat (first | (with_reducible first | exact HB.out | apply below_alloc | apply pw_below_drewN | apply below_drew1 | refine below_set ?_ GE108.out) | exact HB.out)⟩

end Go.Proofs.Ytjjbhpbmfpodeaa.X
end
section
namespace Go.Proofs.Ytjjbhpbmfpodeaa.X
open Go.RowKit Go.Proofs.YtjjbhpbmfpodeaaW.PrintWords Go.Proofs.YtjjbhpbmfpodeaaW.PrintLast Go.Proofs.YtjjbhpbmfpodeaaW.PrintMore
attribute [local go_sem] max2_int min2_int max_two min_two max_three min_three max_four min_four   -- for this text's walks alone
set_option linter.unusedVariables false
set_option linter.unusedSimpArgs false

/-! ### ostiarylaw05_WireEnds: function 9 -/
def ostiarylaw05_WireEnds.j0 : Nat → List Int → Int → Bool → ByteArray → Int → Bool → Option (Bool)
  | 0, _, _, _, _, _, _ => none
  | k + 1, x0, x1, x5, x6, x7, x72 => if x72 = true then (some false) else (if 0 ≤ (wrap64 (x7 - 1)) then (if (wrap64 (x7 - 1)) < (x0.length : Int) then (if (rd x0 (wrap64 (x7 - 1))) = 0 then (if (wrap64 (x7 - x1)) = (x6.size : Int) then (if 0 ≤ x1 then (if x1 ≤ (x0.length : Int) then ((wire_Read.f k (x0.drop (x1 : Int).toNat) 0).bind fun bt111 => (if x5 = true then (if bt111.2.2.1 = 0 then (if bt111.1.toList = x6.toList then (some (bt111.2.1 == (wrap64 (x7 - x1)))) else (some false)) else (some false)) else (some false))) else (none)) else (none)) else (some x5)) else (some x5)) else (none)) else (none))
def ostiarylaw05_WireEnds.f (k : Nat) (l0 : List Int) (a1 : Int) : Option (Bool) := (ostiarylaw05_awake.f k).bind fun t101 => (if (l0.length : Int) > 2000 then (some t101) else ((ostiarykit_Pick.f a1 (wrap64 ((l0.length : Int) + 1))).bind fun t102 => ((wire_Read.f k l0 t102).bind fun bt103 => (if bt103.2.2.1 = 0 then ((name_Check.f bt103.1).bind fun t108 => (if t108 = 0 then (if bt103.2.1 ≤ t102 then (ostiarylaw05_WireEnds.j0 k l0 t102 t101 bt103.1 bt103.2.1 true) else (if bt103.2.1 > (l0.length : Int) then (ostiarylaw05_WireEnds.j0 k l0 t102 t101 bt103.1 bt103.2.1 true) else (ostiarylaw05_WireEnds.j0 k l0 t102 t101 bt103.1 bt103.2.1 (decide ((wrap64 (bt103.2.1 - t102)) > 256))))) else (ostiarylaw05_WireEnds.j0 k l0 t102 t101 bt103.1 bt103.2.1 true))) else (if t101 = true then (if bt103.1.toList = ([] : List UInt8) then (if bt103.2.1 = 0 then (if bt103.2.2.2 ≥ 0 then (some (decide (bt103.2.2.2 ≤ (l0.length : Int)))) else (some false)) else (some false)) else (some false)) else (some false))))))
theorem ostiarylaw05_WireEnds.mono_l : ∀ k, (∀ y0 y1 y2 y3 y4 y5, LeO (ostiarylaw05_WireEnds.j0 k y0 y1 y2 y3 y4 y5) (ostiarylaw05_WireEnds.j0 (k + 1) y0 y1 y2 y3 y4 y5))
  | 0 => fun _ _ _ _ _ _ r h => by simp [ostiarylaw05_WireEnds.j0] at h
  | k + 1 => by
    have ih0 := ostiarylaw05_WireEnds.mono_l k
    · intro y0 y1 y2 y3 y4 y5
      unfold ostiarylaw05_WireEnds.j0
      repeat' first
      | (with_reducible exact ih0 _ _ _ _ _ _)
      | (with_reducible exact ostiarylaw05_awake.mono _)
      | (with_reducible exact wire_Read.mono _ _ _)
      | (with_reducible exact LeO.refl _)
      | (with_reducible exact LeO.none _)
      | (with_reducible refine LeO.ite ?_ ?_)
      | (with_reducible refine LeO.bind ?_ (fun _ => ?_))
      | exact ih0 _ _ _ _ _ _
      | exact ostiarylaw05_awake.mono _
      | exact wire_Read.mono _ _ _
      | exact LeO.none _
      | refine LeO.ite ?_ ?_
      | refine LeO.bind ?_ (fun _ => ?_)
theorem ostiarylaw05_WireEnds.mono : ∀ a0 a1 k, LeO (ostiarylaw05_WireEnds.f k a0 a1) (ostiarylaw05_WireEnds.f (k + 1) a0 a1) := by
  intro a0 a1 k
  have ih0 := ostiarylaw05_WireEnds.mono_l k
  unfold ostiarylaw05_WireEnds.f
  repeat' first
      | (with_reducible exact ih0 _ _ _ _ _ _)
      | (with_reducible exact ostiarylaw05_awake.mono _)
      | (with_reducible exact wire_Read.mono _ _ _)
      | (with_reducible exact LeO.refl _)
      | (with_reducible exact LeO.none _)
      | (with_reducible refine LeO.ite ?_ ?_)
      | (with_reducible refine LeO.bind ?_ (fun _ => ?_))
      | exact ih0 _ _ _ _ _ _
      | exact ostiarylaw05_awake.mono _
      | exact wire_Read.mono _ _ _
      | exact LeO.none _
      | refine LeO.ite ?_ ?_
      | refine LeO.bind ?_ (fun _ => ?_)
set_option maxHeartbeats 8000000 in
set_option maxRecDepth 100000 in
theorem ostiarylaw05_WireEnds.calls (k : Nat) (A0 : Option Addr) (c0 : Nat) (l0 : List Int) (a1 : Int) (r : Bool) (w : World) (hr0 : Kd.C (Kd.int .u8) w A0 l0.length l0) (hc0 : l0.length ≤ c0) (h : ostiarylaw05_WireEnds.f k l0 a1 = some r) :
    Calls Try.prog 9 #[.slice A0 l0.length c0, .int .i64 a1] w fun e w' => e = .returned (.bool r) ∧ Below w.heap.size w w' := by
  have hu31 := Try.underlying31
  have HR0 := Aside0.mk hr0
  have HC0 := Aside0.mk hc0
  clear hr0 hc0
  have HB := Aside0.mk (Below.refl w.heap.size w)
  have H : ((ostiarylaw05_awake.f k).bind fun t101 => (if (l0.length : Int) > 2000 then (some t101) else ((ostiarykit_Pick.f a1 (wrap64 ((l0.length : Int) + 1))).bind fun t102 => ((wire_Read.f k l0 t102).bind fun bt103 => (if bt103.2.2.1 = 0 then ((name_Check.f bt103.1).bind fun t108 => (if t108 = 0 then (if bt103.2.1 ≤ t102 then (ostiarylaw05_WireEnds.j0 k l0 t102 t101 bt103.1 bt103.2.1 true) else (if bt103.2.1 > (l0.length : Int) then (ostiarylaw05_WireEnds.j0 k l0 t102 t101 bt103.1 bt103.2.1 true) else (ostiarylaw05_WireEnds.j0 k l0 t102 t101 bt103.1 bt103.2.1 (decide ((wrap64 (bt103.2.1 - t102)) > 256))))) else (ostiarylaw05_WireEnds.j0 k l0 t102 t101 bt103.1 bt103.2.1 true))) else (if t101 = true then (if bt103.1.toList = ([] : List UInt8) then (if bt103.2.1 = 0 then (if bt103.2.2.2 ≥ 0 then (some (decide (bt103.2.2.2 ≤ (l0.length : Int)))) else (some false)) else (some false)) else (some false)) else (some false))))))) = some r := h
  clear h
  replace H := Option.bind_eq_some_iff.mp H
  obtain ⟨t101, A30, H⟩ := H
  replace H : (if (l0.length : Int) > 2000 then (some t101) else ((ostiarykit_Pick.f a1 (wrap64 ((l0.length : Int) + 1))).bind fun t102 => ((wire_Read.f k l0 t102).bind fun bt103 => (if bt103.2.2.1 = 0 then ((name_Check.f bt103.1).bind fun t108 => (if t108 = 0 then (if bt103.2.1 ≤ t102 then (ostiarylaw05_WireEnds.j0 k l0 t102 t101 bt103.1 bt103.2.1 true) else (if bt103.2.1 > (l0.length : Int) then (ostiarylaw05_WireEnds.j0 k l0 t102 t101 bt103.1 bt103.2.1 true) else (ostiarylaw05_WireEnds.j0 k l0 t102 t101 bt103.1 bt103.2.1 (decide ((wrap64 (bt103.2.1 - t102)) > 256))))) else (ostiarylaw05_WireEnds.j0 k l0 t102 t101 bt103.1 bt103.2.1 true))) else (if t101 = true then (if bt103.1.toList = ([] : List UInt8) then (if bt103.2.1 = 0 then (if bt103.2.2.2 ≥ 0 then (some (decide (bt103.2.2.2 ≤ (l0.length : Int)))) else (some false)) else (some false)) else (some false)) else (some false)))))) = some r := H
  have A3 := Aside0.mk A30
  clear A30
  by_cases c4 : (l0.length : Int) > 2000
  · rw [if_pos c4] at H
    have c4b0 : decide (2000 < (l0.length : Int)) = true := decide_eq_true c4
    have c4b1 : decide (2000 < l0.length) = true := decide_eq_true (by omega)
    clear c4
    obtain rfl := Option.some.inj H
    go_enter Try.func9, Try.ntmps9
    go_wp2_with (first | ((with_reducible refine gate_callee (f := 47) rfl ?_); refine goesL_ (some 12) rfl rfl Try.func47 (by kernel_rfl) rfl #[] rfl (by (try simp only [List.map_toArray, List.map_cons, List.map_nil]); first | done | rfl | (simp only [List.length_drop, List.length_take]; rfl)) ?_; (with_reducible refine (ostiarylaw05_awake.calls k  t101 _ A3.out).mono ?_); rintro e w5 ⟨rfl, hb⟩; refine ⟨_, rfl, ?_⟩; have n0_ := Aside0.mk (below_step (by repeat (first | (with_reducible first | exact HB.out | apply below_alloc | apply pw_below_drewN | apply below_drew1) | exact HB.out)) hb); clear HB; have HB := n0_; clear n0_; (try clear hb); (try clear hb2); (try clear hk); (try clear hi)))
    go_ret
    exact ⟨by first | rfl | (simp [errW_none, errW_some] <;> rfl) | (simp [*, errW_none, errW_some] <;> rfl), by repeat (first | (with_reducible first | exact HB.out | apply below_alloc | apply pw_below_drewN | apply below_drew1) | exact HB.out)⟩
  · rw [if_neg c4] at H
    have c4b0 : decide (2000 < (l0.length : Int)) = false := decide_eq_false c4
    have c4b1 : decide (2000 < l0.length) = false := decide_eq_false (by omega)
    clear c4
    replace H := Option.bind_eq_some_iff.mp H
    obtain ⟨t102, A60, H⟩ := H
    replace H : ((wire_Read.f k l0 t102).bind fun bt103 => (if bt103.2.2.1 = 0 then ((name_Check.f bt103.1).bind fun t108 => (if t108 = 0 then (if bt103.2.1 ≤ t102 then (ostiarylaw05_WireEnds.j0 k l0 t102 t101 bt103.1 bt103.2.1 true) else (if bt103.2.1 > (l0.length : Int) then (ostiarylaw05_WireEnds.j0 k l0 t102 t101 bt103.1 bt103.2.1 true) else (ostiarylaw05_WireEnds.j0 k l0 t102 t101 bt103.1 bt103.2.1 (decide ((wrap64 (bt103.2.1 - t102)) > 256))))) else (ostiarylaw05_WireEnds.j0 k l0 t102 t101 bt103.1 bt103.2.1 true))) else (if t101 = true then (if bt103.1.toList = ([] : List UInt8) then (if bt103.2.1 = 0 then (if bt103.2.2.2 ≥ 0 then (some (decide (bt103.2.2.2 ≤ (l0.length : Int)))) else (some false)) else (some false)) else (some false)) else (some false)))) = some r := H
    have A6 := Aside0.mk A60
    clear A60
    replace H := Option.bind_eq_some_iff.mp H
    obtain ⟨⟨t103, t104, t105, t106⟩, A70, H⟩ := H
    replace H : (if t105 = 0 then ((name_Check.f t103).bind fun t108 => (if t108 = 0 then (if t104 ≤ t102 then (ostiarylaw05_WireEnds.j0 k l0 t102 t101 t103 t104 true) else (if t104 > (l0.length : Int) then (ostiarylaw05_WireEnds.j0 k l0 t102 t101 t103 t104 true) else (ostiarylaw05_WireEnds.j0 k l0 t102 t101 t103 t104 (decide ((wrap64 (t104 - t102)) > 256))))) else (ostiarylaw05_WireEnds.j0 k l0 t102 t101 t103 t104 true))) else (if t101 = true then (if t103.toList = ([] : List UInt8) then (if t104 = 0 then (if t106 ≥ 0 then (some (decide (t106 ≤ (l0.length : Int)))) else (some false)) else (some false)) else (some false)) else (some false))) = some r := H
    have A7 := Aside0.mk A70
    clear A70
    by_cases c8 : t105 = 0
    · rw [if_pos c8] at H
      have c8b0 : (t105 == 0) = true := beq_iff_eq.mpr c8
      have c8b1 : (t105 != 0) = false := bne_eq_false_iff_eq.mpr c8
      clear c8
      have HC9 := Aside0.mk H
      clear H
      go_enter Try.func9, Try.ntmps9
      go_upto_region 8 with (first | ((with_reducible refine gate_callee (f := 47) rfl ?_); refine goesL_ (some 12) rfl rfl Try.func47 (by kernel_rfl) rfl #[] rfl (by (try simp only [List.map_toArray, List.map_cons, List.map_nil]); first | done | rfl | (simp only [List.length_drop, List.length_take]; rfl)) ?_; (with_reducible refine (ostiarylaw05_awake.calls k  t101 _ A3.out).mono ?_); rintro e w10 ⟨rfl, hb⟩; refine ⟨_, rfl, ?_⟩; have n0_ := Aside0.mk (below_step (by repeat (first | (with_reducible first | exact HB.out | apply below_alloc | apply pw_below_drewN | apply below_drew1) | exact HB.out)) hb); clear HB; have HB := n0_; clear n0_; (try clear hb); (try clear hb2); (try clear hk); (try clear hi)) | ((with_reducible refine gate_callee (f := 38) rfl ?_); refine goesL_ (some 21) rfl rfl Try.func38 (by kernel_rfl) rfl #[.int .i64 a1, .int .i64 (wrap64 ((l0.length : Int) + 1))] rfl (by (try simp only [List.map_toArray, List.map_cons, List.map_nil]); first | done | rfl | (simp only [List.length_drop, List.length_take]; rfl)) ?_; (with_reducible refine (ostiarykit_Pick.calls a1 (wrap64 ((l0.length : Int) + 1)) t102 _ A6.out).mono ?_); rintro e w' ⟨rfl, ⟨nd, rfl⟩⟩; refine ⟨_, rfl, ?_⟩; (try (rw [drewN_self w10]; generalize hq_ : World.drewN w10 _ = w10; have n0_ : Aside0 (Below w.heap.size w w10) := ⟨by rw [← hq_]; exact (by repeat (first | (with_reducible first | exact HB.out | apply below_alloc | apply pw_below_drewN | apply below_drew1) | exact HB.out))⟩; clear HB hq_; have HB := n0_; clear n0_))) | ((with_reducible refine gate_callee (f := 45) rfl ?_); refine goesL_ (some 25) rfl rfl Try.func45 (by kernel_rfl) rfl #[.slice A0 l0.length c0, .int .i64 t102] rfl (by (try simp only [List.map_toArray, List.map_cons, List.map_nil]); first | done | rfl | (simp only [List.length_drop, List.length_take]; rfl)) ?_; (with_reducible refine (wire_Read.calls k _ _ l0 t102 t103 t104 t105 t106 _ ?side1 ?side2 A7.out).mono ?_); (case side1 => repeat (first | exact (Kd.C_below HR0.out HB.out) | (with_reducible refine Kd.C_alloc ?_ _) | (with_reducible refine Kd.C_drewN ?_ _) | (with_reducible refine Kd.C_drew ?_))); (case side2 => exact HC0.out); rintro e w11 ⟨rfl, hb⟩; refine ⟨_, rfl, ?_⟩; have n0_ := Aside0.mk (below_step (by repeat (first | (with_reducible first | exact HB.out | apply below_alloc | apply pw_below_drewN | apply below_drew1) | exact HB.out)) hb); clear HB; have HB := n0_; clear n0_; (try clear hb); (try clear hb2); (try clear hk); (try clear hi)) | ((with_reducible refine gate_dst (N := 8) rfl ?_); (try (refine gate_guard (by rfl) ?_; dsimp only)); refine box_event ?hg (N := 8) ?hd (cs := #[.int .i64 0, .int .i64 0]) (t := 31) ?hr ?_; (case hd => rfl); (case hg => rfl); (case hr => first | (go_simp; done) | (go_simp; rfl)); intro gb107 hg w12 hbox hb; have n0_ := Aside0.mk (below_step (by repeat (first | (with_reducible first | exact HB.out | apply below_alloc | apply pw_below_drewN | apply below_drew1) | exact HB.out)) hb); have n1_ := Aside0.mk (hbox); have n2_ := Aside0.mk ((by rw [hg]; exact (below_size (by repeat (first | (with_reducible first | exact HB.out | apply below_alloc | apply pw_below_drewN | apply below_drew1) | exact HB.out))) : w.heap.size ≤ gb107)); have n3_ := Aside0.mk ((by rw [hg]; exact (below_size (by repeat (first | (with_reducible first | exact HB.out | apply below_alloc | apply pw_below_drewN | apply below_drew1) | exact HB.out))) : w.heap.size ≤ gb107)); clear HB; have HB := n0_; have BK107 := n1_; have GW107 := n2_; have GE107 := n3_; clear n0_ n1_ n2_ n3_; clear hb hbox hg; have hcz13_0 : w12.cell? ⟨gb107, 0, none⟩ = some (.int .i64 0) := (blk_cell BK107.out 0).trans rfl; have hcz13_1 : w12.cell? ⟨gb107, 1, none⟩ = some (.int .i64 0) := (blk_cell BK107.out 1).trans rfl; have hfz13_0 := blk_frozen BK107.out 0; have hfz13_1 := blk_frozen BK107.out 1))
      (try simp only [Act.put, List.setIfInBounds_toArray, List.set_cons_zero, List.set_cons_succ])
      go_cut [72] (fun v72 wc => ∃ (kq : Nat) (x72_8 : Bool), v72 = .bool x72_8 ∧ Aside0 (ostiarylaw05_WireEnds.j0 kq l0 t102 t101 t103 t104 x72_8 = some r) ∧ Aside0 (kq ≤ k) ∧ Aside0 (wc.heap[gb107]? = some (.cells #[.int .i64 t105, .int .i64 t106] 31 (0, 0))) ∧ Aside0 (Below w.heap.size w wc))
      case first =>
        have H := HC9.out
        clear HC9
        replace H := Option.bind_eq_some_iff.mp H
        obtain ⟨t108, A140, H⟩ := H
        replace H : (if t108 = 0 then (if t104 ≤ t102 then (ostiarylaw05_WireEnds.j0 k l0 t102 t101 t103 t104 true) else (if t104 > (l0.length : Int) then (ostiarylaw05_WireEnds.j0 k l0 t102 t101 t103 t104 true) else (ostiarylaw05_WireEnds.j0 k l0 t102 t101 t103 t104 (decide ((wrap64 (t104 - t102)) > 256))))) else (ostiarylaw05_WireEnds.j0 k l0 t102 t101 t103 t104 true)) = some r := H
        have A14 := Aside0.mk A140
        clear A140
        by_cases c15 : t108 = 0
        · rw [if_pos c15] at H
          have c15b0 : (t108 == 0) = true := beq_iff_eq.mpr c15
          have c15b1 : (t108 != 0) = false := bne_eq_false_iff_eq.mpr c15
          clear c15
          (first | rw [c15b0] | (simp only [i64_w, i32_w]; rw [c15b0]) | skip)
          by_cases c16 : t104 ≤ t102
          · rw [if_pos c16] at H
            have c16b0 : decide (t104 ≤ t102) = true := decide_eq_true c16
            clear c16
            have H' := Aside0.mk H
            clear H
            go_wp2_with (first | ((with_reducible refine gate_callee (f := 48) rfl ?_); refine goesL_ (some 54) rfl rfl Try.func48 (by kernel_rfl) rfl #[.string t103] rfl (by (try simp only [List.map_toArray, List.map_cons, List.map_nil]); first | done | rfl | (simp only [List.length_drop, List.length_take]; rfl)) ?_; (with_reducible refine (name_Check.calls t103 t108 _ A14.out).mono ?_); rintro e w17 ⟨rfl, hb⟩; refine ⟨_, rfl, ?_⟩; have n0_ := Aside0.mk (blk_below (g := gb107) (o := .cells #[.int .i64 t105, .int .i64 t106] 31 (0, 0)) (by (with_reducible repeat (first | refine blk_drewN ?_ _ | refine blk_drew ?_ | refine blk_alloc ?_ _)); refine blk_put (cs := #[.int .i64 t105, .int .i64 0]) ?_ 1 _ rfl; (with_reducible repeat (first | refine blk_drewN ?_ _ | refine blk_drew ?_ | refine blk_alloc ?_ _)); refine blk_put (cs := #[.int .i64 0, .int .i64 0]) ?_ 0 _ rfl; (with_reducible repeat (first | refine blk_drewN ?_ _ | refine blk_drew ?_ | refine blk_alloc ?_ _)); exact BK107.out) hb); have n1_ := Aside0.mk (below_step (by repeat (first | (with_reducible first | exact HB.out | apply below_alloc | apply pw_below_drewN | apply below_drew1 | refine below_set ?_ GE107.out) | exact HB.out)) hb); clear BK107; clear HB; have BK107 := n0_; have HB := n1_; clear n0_ n1_; (try clear hb); (try clear hb2); (try clear hk); (try clear hi)))
            go_meet
            case rel => exact ⟨_, (true), (by first | rfl | (simp; done) | (simp [*]; done)), H', ⟨by first | omega | exact Nat.le_refl _⟩, ⟨by (with_reducible repeat (first | refine blk_drewN ?_ _ | refine blk_drew ?_ | refine blk_alloc ?_ _)); exact BK107.out⟩, ⟨by repeat (first | (with_reducible first | exact HB.out | apply below_alloc | apply pw_below_drewN | apply below_drew1 | refine below_set ?_ GE107.out) | exact HB.out)⟩⟩
          · rw [if_neg c16] at H
            have c16b0 : decide (t104 ≤ t102) = false := decide_eq_false c16
            clear c16
            by_cases c18 : t104 > (l0.length : Int)
            · rw [if_pos c18] at H
              have c18b0 : decide ((l0.length : Int) < t104) = true := decide_eq_true c18
              clear c18
              have H' := Aside0.mk H
              clear H
              go_wp2_with (first | ((with_reducible refine gate_callee (f := 48) rfl ?_); refine goesL_ (some 54) rfl rfl Try.func48 (by kernel_rfl) rfl #[.string t103] rfl (by (try simp only [List.map_toArray, List.map_cons, List.map_nil]); first | done | rfl | (simp only [List.length_drop, List.length_take]; rfl)) ?_; (with_reducible refine (name_Check.calls t103 t108 _ A14.out).mono ?_); rintro e w19 ⟨rfl, hb⟩; refine ⟨_, rfl, ?_⟩; have n0_ := Aside0.mk (blk_below (g := gb107) (o := .cells #[.int .i64 t105, .int .i64 t106] 31 (0, 0)) (by (with_reducible repeat (first | refine blk_drewN ?_ _ | refine blk_drew ?_ | refine blk_alloc ?_ _)); refine blk_put (cs := #[.int .i64 t105, .int .i64 0]) ?_ 1 _ rfl; (with_reducible repeat (first | refine blk_drewN ?_ _ | refine blk_drew ?_ | refine blk_alloc ?_ _)); refine blk_put (cs := #[.int .i64 0, .int .i64 0]) ?_ 0 _ rfl; (with_reducible repeat (first | refine blk_drewN ?_ _ | refine blk_drew ?_ | refine blk_alloc ?_ _)); exact BK107.out) hb); have n1_ := Aside0.mk (below_step (by repeat (first | (with_reducible first | exact HB.out | apply below_alloc | apply pw_below_drewN | apply below_drew1 | refine below_set ?_ GE107.out) | exact HB.out)) hb); clear BK107; clear HB; have BK107 := n0_; have HB := n1_; clear n0_ n1_; (try clear hb); (try clear hb2); (try clear hk); (try clear hi)))
              go_meet
              case rel => exact ⟨_, (true), (by first | rfl | (simp; done) | (simp [*]; done)), H', ⟨by first | omega | exact Nat.le_refl _⟩, ⟨by (with_reducible repeat (first | refine blk_drewN ?_ _ | refine blk_drew ?_ | refine blk_alloc ?_ _)); exact BK107.out⟩, ⟨by repeat (first | (with_reducible first | exact HB.out | apply below_alloc | apply pw_below_drewN | apply below_drew1 | refine below_set ?_ GE107.out) | exact HB.out)⟩⟩
            · rw [if_neg c18] at H
              have c18b0 : decide ((l0.length : Int) < t104) = false := decide_eq_false c18
              clear c18
              have H' := Aside0.mk H
              clear H
              go_wp2_with (first | ((with_reducible refine gate_callee (f := 48) rfl ?_); refine goesL_ (some 54) rfl rfl Try.func48 (by kernel_rfl) rfl #[.string t103] rfl (by (try simp only [List.map_toArray, List.map_cons, List.map_nil]); first | done | rfl | (simp only [List.length_drop, List.length_take]; rfl)) ?_; (with_reducible refine (name_Check.calls t103 t108 _ A14.out).mono ?_); rintro e w20 ⟨rfl, hb⟩; refine ⟨_, rfl, ?_⟩; have n0_ := Aside0.mk (blk_below (g := gb107) (o := .cells #[.int .i64 t105, .int .i64 t106] 31 (0, 0)) (by (with_reducible repeat (first | refine blk_drewN ?_ _ | refine blk_drew ?_ | refine blk_alloc ?_ _)); refine blk_put (cs := #[.int .i64 t105, .int .i64 0]) ?_ 1 _ rfl; (with_reducible repeat (first | refine blk_drewN ?_ _ | refine blk_drew ?_ | refine blk_alloc ?_ _)); refine blk_put (cs := #[.int .i64 0, .int .i64 0]) ?_ 0 _ rfl; (with_reducible repeat (first | refine blk_drewN ?_ _ | refine blk_drew ?_ | refine blk_alloc ?_ _)); exact BK107.out) hb); have n1_ := Aside0.mk (below_step (by repeat (first | (with_reducible first | exact HB.out | apply below_alloc | apply pw_below_drewN | apply below_drew1 | refine below_set ?_ GE107.out) | exact HB.out)) hb); clear BK107; clear HB; have BK107 := n0_; have HB := n1_; clear n0_ n1_; (try clear hb); (try clear hb2); (try clear hk); (try clear hi)))
              go_meet
              case rel => exact ⟨_, (decide ((wrap64 (t104 - t102)) > 256)), (by first | rfl | (simp; done) | (simp [*]; done)), H', ⟨by first | omega | exact Nat.le_refl _⟩, ⟨by (with_reducible repeat (first | refine blk_drewN ?_ _ | refine blk_drew ?_ | refine blk_alloc ?_ _)); exact BK107.out⟩, ⟨by repeat (first | (with_reducible first | exact HB.out | apply below_alloc | apply pw_below_drewN | apply below_drew1 | refine below_set ?_ GE107.out) | exact HB.out)⟩⟩
        · rw [if_neg c15] at H
          have c15b0 : (t108 == 0) = false := beq_eq_false_iff_ne.mpr c15
          have c15b1 : (t108 != 0) = true := bne_iff_ne.mpr c15
          (first | rw [c15b0] | (simp only [i64_w, i32_w]; rw [c15b0]) | skip)
          have H' := Aside0.mk H
          clear H
          go_wp2_with (first | ((with_reducible refine gate_callee (f := 48) rfl ?_); refine goesL_ (some 54) rfl rfl Try.func48 (by kernel_rfl) rfl #[.string t103] rfl (by (try simp only [List.map_toArray, List.map_cons, List.map_nil]); first | done | rfl | (simp only [List.length_drop, List.length_take]; rfl)) ?_; (with_reducible refine (name_Check.calls t103 t108 _ A14.out).mono ?_); rintro e w21 ⟨rfl, hb⟩; refine ⟨_, rfl, ?_⟩; have n0_ := Aside0.mk (blk_below (g := gb107) (o := .cells #[.int .i64 t105, .int .i64 t106] 31 (0, 0)) (by (with_reducible repeat (first | refine blk_drewN ?_ _ | refine blk_drew ?_ | refine blk_alloc ?_ _)); refine blk_put (cs := #[.int .i64 t105, .int .i64 0]) ?_ 1 _ rfl; (with_reducible repeat (first | refine blk_drewN ?_ _ | refine blk_drew ?_ | refine blk_alloc ?_ _)); refine blk_put (cs := #[.int .i64 0, .int .i64 0]) ?_ 0 _ rfl; (with_reducible repeat (first | refine blk_drewN ?_ _ | refine blk_drew ?_ | refine blk_alloc ?_ _)); exact BK107.out) hb); have n1_ := Aside0.mk (below_step (by repeat (first | (with_reducible first | exact HB.out | apply below_alloc | apply pw_below_drewN | apply below_drew1 | refine below_set ?_ GE107.out) | exact HB.out)) hb); clear BK107; clear HB; have BK107 := n0_; have HB := n1_; clear n0_ n1_; (try clear hb); (try clear hb2); (try clear hk); (try clear hi)))
          go_meet
          case rel => exact ⟨_, (true), (by first | rfl | (simp; done) | (simp [*]; done)), H', ⟨by first | omega | exact Nat.le_refl _⟩, ⟨by (with_reducible repeat (first | refine blk_drewN ?_ _ | refine blk_drew ?_ | refine blk_alloc ?_ _)); exact BK107.out⟩, ⟨by repeat (first | (with_reducible first | exact HB.out | apply below_alloc | apply pw_below_drewN | apply below_drew1 | refine below_set ?_ GE107.out) | exact HB.out)⟩⟩
      case rest =>
        clear HC9
        try clear c1
        try clear p2
        try clear c3
        try clear c4
        try clear c4b0
        try clear c4b1
        try clear p6
        try clear c8
        try clear c8b0
        try clear c8b1
        try clear c9
        try clear c15
        try clear c15b0
        try clear c15b1
        try clear c16
        try clear c16b0
        try clear c18
        try clear c18b0
        try clear hcz13_0
        try clear hcz13_1
        try clear hfz13_0
        try clear hfz13_1
        obtain ⟨kq, x72_8, rfl, HA, HJ8, BK107, HB⟩ := hcut
        cases kq with
        | zero => exact absurd HA.out (by simp [ostiarylaw05_WireEnds.j0])
        | succ kj8 =>
          have H := HA.out
          clear HA
          simp only [ostiarylaw05_WireEnds.j0] at H
          by_cases c22 : x72_8 = true
          · subst c22
            have H1 : (some false) = some r := by rw [if_pos rfl] at H; exact H
            clear H
            have H := H1
            clear H1
            obtain rfl := Option.some.inj H
            go_wp2
            go_ret
            exact ⟨by first | rfl | (simp [errW_none, errW_some] <;> rfl) | (simp [*, errW_none, errW_some] <;> rfl), by repeat (first | (with_reducible first | exact HB.out | apply below_alloc | apply pw_below_drewN | apply below_drew1 | refine below_set ?_ GE107.out) | exact HB.out)⟩
          · replace c22 := Bool.eq_false_iff.mpr c22
            subst c22
            have H1 : (if 0 ≤ (wrap64 (t104 - 1)) then (if (wrap64 (t104 - 1)) < (l0.length : Int) then (if (rd l0 (wrap64 (t104 - 1))) = 0 then (if (wrap64 (t104 - t102)) = (t103.size : Int) then (if 0 ≤ t102 then (if t102 ≤ (l0.length : Int) then ((wire_Read.f kj8 (l0.drop (t102 : Int).toNat) 0).bind fun bt111 => (if t101 = true then (if bt111.2.2.1 = 0 then (if bt111.1.toList = t103.toList then (some (bt111.2.1 == (wrap64 (t104 - t102)))) else (some false)) else (some false)) else (some false))) else (none)) else (none)) else (some t101)) else (some t101)) else (none)) else (none)) = some r := by rw [if_neg (show ¬ (false = true) by decide)] at H; exact H
            clear H
            have H := H1
            clear H1
            obtain ⟨ji23, hji23⟩ : ∃ j_ : Int, (wrap64 (t104 - 1)) = j_ := ⟨_, rfl⟩
            replace H : (if 0 ≤ (ji23) then (if (ji23) < (l0.length : Int) then (if (rd l0 (ji23)) = 0 then (if (wrap64 (t104 - t102)) = (t103.size : Int) then (if 0 ≤ t102 then (if t102 ≤ (l0.length : Int) then ((wire_Read.f kj8 (l0.drop (t102 : Int).toNat) 0).bind fun bt111 => (if t101 = true then (if bt111.2.2.1 = 0 then (if bt111.1.toList = t103.toList then (some (bt111.2.1 == (wrap64 (t104 - t102)))) else (some false)) else (some false)) else (some false))) else (none)) else (none)) else (some t101)) else (some t101)) else (none)) else (none)) = some r := by first | (rw [hji23] at H; exact H) | (simp only [hji23] at H ⊢; exact H)
            have hji23w : (IntKind.i64.wrap (t104 - 1)) = ji23 := (i64_w _).trans hji23
            by_cases c24 : 0 ≤ (ji23)
            · rw [if_pos c24] at H
              have c24b0 : decide (0 ≤ (ji23)) = true := decide_eq_true c24
              clear c24
              by_cases c25 : (ji23) < (l0.length : Int)
              · rw [if_pos c25] at H
                have c25b0 : decide ((ji23) < (l0.length : Int)) = true := decide_eq_true c25
                clear c25
                by_cases c26 : (rd l0 (ji23)) = 0
                · rw [if_pos c26] at H
                  have c26b0 : ((rd l0 (ji23)) == 0) = true := beq_iff_eq.mpr c26
                  have c26b1 : ((rd l0 (ji23)) != 0) = false := bne_eq_false_iff_eq.mpr c26
                  clear c26
                  by_cases c27 : (wrap64 (t104 - t102)) = (t103.size : Int)
                  · rw [if_pos c27] at H
                    have c27b0 : ((wrap64 (t104 - t102)) == (t103.size : Int)) = true := beq_iff_eq.mpr c27
                    have c27b1 : ((wrap64 (t104 - t102)) != (t103.size : Int)) = false := bne_eq_false_iff_eq.mpr c27
                    clear c27
                    by_cases c28 : 0 ≤ t102
                    · rw [if_pos c28] at H
                      have c28b0 := eq_true c28
                      have c28b1 : decide (0 ≤ t102) = true := decide_eq_true c28
                      clear c28
                      by_cases c29 : t102 ≤ (l0.length : Int)
                      · rw [if_pos c29] at H
                        have c29b0 := eq_true c29
                        have c29b1 : decide (t102 ≤ (l0.length : Int)) = true := decide_eq_true c29
                        clear c29
                        replace H := Option.bind_eq_some_iff.mp H
                        obtain ⟨⟨t111, t112, t113, t114⟩, A300, H⟩ := H
                        replace H : (if t101 = true then (if t113 = 0 then (if t111.toList = t103.toList then (some (t112 == (wrap64 (t104 - t102)))) else (some false)) else (some false)) else (some false)) = some r := H
                        have A30 := Aside0.mk A300
                        clear A300
                        by_cases c31 : t101 = true
                        · subst c31
                          have H1 : (if t113 = 0 then (if t111.toList = t103.toList then (some (t112 == (wrap64 (t104 - t102)))) else (some false)) else (some false)) = some r := by rw [if_pos rfl] at H; exact H
                          clear H
                          have H := H1
                          clear H1
                          by_cases c32 : t113 = 0
                          · rw [if_pos c32] at H
                            have c32b0 : (t113 == 0) = true := beq_iff_eq.mpr c32
                            have c32b1 : (t113 != 0) = false := bne_eq_false_iff_eq.mpr c32
                            clear c32
                            by_cases c33 : t111.toList = t103.toList
                            · rw [if_pos c33] at H
                              have c33b0 : (t111.toList == t103.toList) = true := beq_iff_eq.mpr c33
                              have c33b1 : (t111.toList != t103.toList) = false := bne_eq_false_iff_eq.mpr c33
                              clear c33
                              obtain rfl := Option.some.inj H
                              have p109 : 0 ≤ ((ji23) : Int) := of_decide_eq_true (by first | (with_reducible assumption) | assumption)
                              have q109 : (ji23) < (l0.length : Int) := of_decide_eq_true (by first | (with_reducible assumption) | assumption)
                              obtain ⟨ad109, e109, hx109_0⟩ := Kd.at_int HR0.out (ji23) p109 q109
                              cases e109
                              replace hx109_0 := (HB.out.cell (World.block_lt_of_cell? w _ hx109_0)).trans hx109_0
                              replace p109 := eq_true p109
                              replace q109 := eq_true q109
                              obtain ⟨i034, hi034, _, hsz34, _⟩ := info_parts info5
                              obtain ⟨A34, hcut34, hA34, hC34⟩ := print_drop_of (P := Try.prog) (Value.int .u8) 0 22 5 .i64 Try.underlying22 hi034 hsz34 (some ad109) c0 l0 t102 (of_decide_eq_true (by first | (with_reducible assumption) | assumption)) (of_decide_eq_true (by first | (with_reducible assumption) | assumption)) HC0.out
                              have HR110 := Aside0.mk (Kd.C_of_reads (h1 := fun _ => rfl) (hA34 _ (Kd.reads_of_C HR0.out)))
                              have HC110 := Aside0.mk hC34
                              clear hA34 hC34 hi034 hsz34
                              go_wp2_with (first | ((with_reducible refine gate_callee (f := 45) rfl ?_); refine goesL_ (some 92) rfl rfl Try.func45 (by kernel_rfl) rfl #[.slice A34 (l0.drop (t102 : Int).toNat).length (c0 - t102.toNat), .int .i64 0] rfl (by (try simp only [List.map_toArray, List.map_cons, List.map_nil]); first | done | (rw [show (l0.drop (t102 : Int).toNat).length = (l0.length - t102.toNat) from List.length_drop] <;> rfl) | rfl | (simp only [List.length_drop, List.length_take]; rfl)) ?_; (with_reducible refine (wire_Read.calls kj8 _ _ (l0.drop (t102 : Int).toNat) 0 t111 t112 t113 t114 _ ?side1 ?side2 A30.out).mono ?_); (case side1 => repeat (first | exact (Kd.C_below HR110.out HB.out) | (with_reducible refine Kd.C_alloc ?_ _) | (with_reducible refine Kd.C_drewN ?_ _) | (with_reducible refine Kd.C_drew ?_))); (case side2 => exact HC110.out); rintro e w35 ⟨rfl, hb⟩; refine ⟨_, rfl, ?_⟩; have n0_ := Aside0.mk (blk_below (g := gb107) (o := .cells #[.int .i64 t105, .int .i64 t106] 31 (0, 0)) (by (with_reducible repeat (first | refine blk_drewN ?_ _ | refine blk_drew ?_ | refine blk_alloc ?_ _)); exact BK107.out) hb); have n1_ := Aside0.mk (below_step (by repeat (first | (with_reducible first | exact HB.out | apply below_alloc | apply pw_below_drewN | apply below_drew1 | refine below_set ?_ GE107.out) | exact HB.out)) hb); clear BK107; clear HB; have BK107 := n0_; have HB := n1_; clear n0_ n1_; (try clear hb); (try clear hb2); (try clear hk); (try clear hi)) | ((with_reducible refine gate_dst (N := 11) rfl ?_); (try (refine gate_guard (by rfl) ?_; dsimp only)); refine box_event ?hg (N := 11) ?hd (cs := #[.int .i64 0, .int .i64 0]) (t := 31) ?hr ?_; (case hd => rfl); (case hg => rfl); (case hr => first | (go_simp; done) | (go_simp; rfl)); intro gb115 hg w36 hbox hb; have n0_ := Aside0.mk (blk_below (g := gb107) (o := .cells #[.int .i64 t105, .int .i64 t106] 31 (0, 0)) (by (with_reducible repeat (first | refine blk_drewN ?_ _ | refine blk_drew ?_ | refine blk_alloc ?_ _)); exact BK107.out) hb); have n1_ := Aside0.mk (below_step (by repeat (first | (with_reducible first | exact HB.out | apply below_alloc | apply pw_below_drewN | apply below_drew1 | refine below_set ?_ GE107.out) | exact HB.out)) hb); have n2_ := Aside0.mk (hbox); have n3_ := Aside0.mk ((by rw [hg]; exact (below_size (by repeat (first | (with_reducible first | exact HB.out | apply below_alloc | apply pw_below_drewN | apply below_drew1 | refine below_set ?_ GE107.out) | exact HB.out))) : w.heap.size ≤ gb115)); have n4_ := Aside0.mk ((by rw [hg]; exact (below_size (by repeat (first | (with_reducible first | exact HB.out | apply below_alloc | apply pw_below_drewN | apply below_drew1 | refine below_set ?_ GE107.out) | exact HB.out))) : w.heap.size ≤ gb115)); have n5_ := Aside0.mk ((by rw [hg]; exact Nat.ne_of_lt (blk_lt (g := gb107) (o := .cells #[.int .i64 t105, .int .i64 t106] 31 (0, 0)) (by (with_reducible repeat (first | refine blk_drewN ?_ _ | refine blk_drew ?_ | refine blk_alloc ?_ _)); exact BK107.out)) : gb107 ≠ gb115)); have n6_ := Aside0.mk ((by rw [hg]; exact Nat.ne_of_gt (blk_lt (g := gb107) (o := .cells #[.int .i64 t105, .int .i64 t106] 31 (0, 0)) (by (with_reducible repeat (first | refine blk_drewN ?_ _ | refine blk_drew ?_ | refine blk_alloc ?_ _)); exact BK107.out)) : gb115 ≠ gb107)); clear BK107; clear HB; have BK107 := n0_; have HB := n1_; have BK115 := n2_; have GW115 := n3_; have GE115 := n4_; have NB107_115 := n5_; have NB115_107 := n6_; clear n0_ n1_ n2_ n3_ n4_ n5_ n6_; clear hb hbox hg; have hnb37 := NB115_107.out; have hnc37 := NB107_115.out; have hcz38_0 : w36.cell? ⟨gb115, 0, none⟩ = some (.int .i64 0) := (blk_cell BK115.out 0).trans rfl; have hcz38_1 : w36.cell? ⟨gb115, 1, none⟩ = some (.int .i64 0) := (blk_cell BK115.out 1).trans rfl; have hfz38_0 := blk_frozen BK115.out 0; have hfz38_1 := blk_frozen BK115.out 1))
                              go_ret
                              exact ⟨by first | rfl | (simp [errW_none, errW_some] <;> rfl) | (simp only [← hji23]; first | rfl | (simp [errW_none, errW_some] <;> rfl)) | (simp [*, errW_none, errW_some] <;> rfl), by repeat (first | (with_reducible first | exact HB.out | apply below_alloc | apply pw_below_drewN | apply below_drew1 | refine below_set ?_ GE107.out | refine below_set ?_ GE115.out) | exact HB.out)⟩
                            · rw [if_neg c33] at H
                              have c33b0 : (t111.toList == t103.toList) = false := beq_eq_false_iff_ne.mpr c33
                              have c33b1 : (t111.toList != t103.toList) = true := bne_iff_ne.mpr c33
                              obtain rfl := Option.some.inj H
                              have p109 : 0 ≤ ((ji23) : Int) := of_decide_eq_true (by first | (with_reducible assumption) | assumption)
                              have q109 : (ji23) < (l0.length : Int) := of_decide_eq_true (by first | (with_reducible assumption) | assumption)
                              obtain ⟨ad109, e109, hx109_0⟩ := Kd.at_int HR0.out (ji23) p109 q109
                              cases e109
                              replace hx109_0 := (HB.out.cell (World.block_lt_of_cell? w _ hx109_0)).trans hx109_0
                              replace p109 := eq_true p109
                              replace q109 := eq_true q109
                              obtain ⟨i039, hi039, _, hsz39, _⟩ := info_parts info5
                              obtain ⟨A39, hcut39, hA39, hC39⟩ := print_drop_of (P := Try.prog) (Value.int .u8) 0 22 5 .i64 Try.underlying22 hi039 hsz39 (some ad109) c0 l0 t102 (of_decide_eq_true (by first | (with_reducible assumption) | assumption)) (of_decide_eq_true (by first | (with_reducible assumption) | assumption)) HC0.out
                              have HR110 := Aside0.mk (Kd.C_of_reads (h1 := fun _ => rfl) (hA39 _ (Kd.reads_of_C HR0.out)))
                              have HC110 := Aside0.mk hC39
                              clear hA39 hC39 hi039 hsz39
                              go_wp2_with (first | ((with_reducible refine gate_callee (f := 45) rfl ?_); refine goesL_ (some 92) rfl rfl Try.func45 (by kernel_rfl) rfl #[.slice A39 (l0.drop (t102 : Int).toNat).length (c0 - t102.toNat), .int .i64 0] rfl (by (try simp only [List.map_toArray, List.map_cons, List.map_nil]); first | done | (rw [show (l0.drop (t102 : Int).toNat).length = (l0.length - t102.toNat) from List.length_drop] <;> rfl) | rfl | (simp only [List.length_drop, List.length_take]; rfl)) ?_; (with_reducible refine (wire_Read.calls kj8 _ _ (l0.drop (t102 : Int).toNat) 0 t111 t112 t113 t114 _ ?side1 ?side2 A30.out).mono ?_); (case side1 => repeat (first | exact (Kd.C_below HR110.out HB.out) | (with_reducible refine Kd.C_alloc ?_ _) | (with_reducible refine Kd.C_drewN ?_ _) | (with_reducible refine Kd.C_drew ?_))); (case side2 => exact HC110.out); rintro e w40 ⟨rfl, hb⟩; refine ⟨_, rfl, ?_⟩; have n0_ := Aside0.mk (blk_below (g := gb107) (o := .cells #[.int .i64 t105, .int .i64 t106] 31 (0, 0)) (by (with_reducible repeat (first | refine blk_drewN ?_ _ | refine blk_drew ?_ | refine blk_alloc ?_ _)); exact BK107.out) hb); have n1_ := Aside0.mk (below_step (by repeat (first | (with_reducible first | exact HB.out | apply below_alloc | apply pw_below_drewN | apply below_drew1 | refine below_set ?_ GE107.out) | exact HB.out)) hb); clear BK107; clear HB; have BK107 := n0_; have HB := n1_; clear n0_ n1_; (try clear hb); (try clear hb2); (try clear hk); (try clear hi)) | ((with_reducible refine gate_dst (N := 11) rfl ?_); (try (refine gate_guard (by rfl) ?_; dsimp only)); refine box_event ?hg (N := 11) ?hd (cs := #[.int .i64 0, .int .i64 0]) (t := 31) ?hr ?_; (case hd => rfl); (case hg => rfl); (case hr => first | (go_simp; done) | (go_simp; rfl)); intro gb115 hg w41 hbox hb; have n0_ := Aside0.mk (blk_below (g := gb107) (o := .cells #[.int .i64 t105, .int .i64 t106] 31 (0, 0)) (by (with_reducible repeat (first | refine blk_drewN ?_ _ | refine blk_drew ?_ | refine blk_alloc ?_ _)); exact BK107.out) hb); have n1_ := Aside0.mk (below_step (by repeat (first | (with_reducible first | exact HB.out | apply below_alloc | apply pw_below_drewN | apply below_drew1 | refine below_set ?_ GE107.out) | exact HB.out)) hb); have n2_ := Aside0.mk (hbox); have n3_ := Aside0.mk ((by rw [hg]; exact (below_size (by repeat (first | (with_reducible first | exact HB.out | apply below_alloc | apply pw_below_drewN | apply below_drew1 | refine below_set ?_ GE107.out) | exact HB.out))) : w.heap.size ≤ gb115)); have n4_ := Aside0.mk ((by rw [hg]; exact (below_size (by repeat (first | (with_reducible first | exact HB.out | apply below_alloc | apply pw_below_drewN | apply below_drew1 | refine below_set ?_ GE107.out) | exact HB.out))) : w.heap.size ≤ gb115)); have n5_ := Aside0.mk ((by rw [hg]; exact Nat.ne_of_lt (blk_lt (g := gb107) (o := .cells #[.int .i64 t105, .int .i64 t106] 31 (0, 0)) (by (with_reducible repeat (first | refine blk_drewN ?_ _ | refine blk_drew ?_ | refine blk_alloc ?_ _)); exact BK107.out)) : gb107 ≠ gb115)); have n6_ := Aside0.mk ((by rw [hg]; exact Nat.ne_of_gt (blk_lt (g := gb107) (o := .cells #[.int .i64 t105, .int .i64 t106] 31 (0, 0)) (by (with_reducible repeat (first | refine blk_drewN ?_ _ | refine blk_drew ?_ | refine blk_alloc ?_ _)); exact BK107.out)) : gb115 ≠ gb107)); clear BK107; clear HB; have BK107 := n0_; have HB := n1_; have BK115 := n2_; have GW115 := n3_; have GE115 := n4_; have NB107_115 := n5_; have NB115_107 := n6_; clear n0_ n1_ n2_ n3_ n4_ n5_ n6_; clear hb hbox hg; have hnb42 := NB115_107.out; have hnc42 := NB107_115.out; have hcz43_0 : w41.cell? ⟨gb115, 0, none⟩ = some (.int .i64 0) := (blk_cell BK115.out 0).trans rfl; have hcz43_1 : w41.cell? ⟨gb115, 1, none⟩ = some (.int .i64 0) := (blk_cell BK115.out 1).trans rfl; have hfz43_0 := blk_frozen BK115.out 0; have hfz43_1 := blk_frozen BK115.out 1))
                              go_ret
                              exact ⟨by first | rfl | (simp [errW_none, errW_some] <;> rfl) | (simp only [← hji23]; first | rfl | (simp [errW_none, errW_some] <;> rfl)) | (simp [*, errW_none, errW_some] <;> rfl), by repeat (first | (with_reducible first | exact HB.out | apply below_alloc | apply pw_below_drewN | apply below_drew1 | refine below_set ?_ GE107.out | refine below_set ?_ GE115.out) | exact HB.out)⟩
                          · rw [if_neg c32] at H
                            have c32b0 : (t113 == 0) = false := beq_eq_false_iff_ne.mpr c32
                            have c32b1 : (t113 != 0) = true := bne_iff_ne.mpr c32
                            obtain rfl := Option.some.inj H
                            have p109 : 0 ≤ ((ji23) : Int) := of_decide_eq_true (by first | (with_reducible assumption) | assumption)
                            have q109 : (ji23) < (l0.length : Int) := of_decide_eq_true (by first | (with_reducible assumption) | assumption)
                            obtain ⟨ad109, e109, hx109_0⟩ := Kd.at_int HR0.out (ji23) p109 q109
                            cases e109
                            replace hx109_0 := (HB.out.cell (World.block_lt_of_cell? w _ hx109_0)).trans hx109_0
                            replace p109 := eq_true p109
                            replace q109 := eq_true q109
                            obtain ⟨i044, hi044, _, hsz44, _⟩ := info_parts info5
                            obtain ⟨A44, hcut44, hA44, hC44⟩ := print_drop_of (P := Try.prog) (Value.int .u8) 0 22 5 .i64 Try.underlying22 hi044 hsz44 (some ad109) c0 l0 t102 (of_decide_eq_true (by first | (with_reducible assumption) | assumption)) (of_decide_eq_true (by first | (with_reducible assumption) | assumption)) HC0.out
                            have HR110 := Aside0.mk (Kd.C_of_reads (h1 := fun _ => rfl) (hA44 _ (Kd.reads_of_C HR0.out)))
                            have HC110 := Aside0.mk hC44
                            clear hA44 hC44 hi044 hsz44
                            go_wp2_with (first | ((with_reducible refine gate_callee (f := 45) rfl ?_); refine goesL_ (some 92) rfl rfl Try.func45 (by kernel_rfl) rfl #[.slice A44 (l0.drop (t102 : Int).toNat).length (c0 - t102.toNat), .int .i64 0] rfl (by (try simp only [List.map_toArray, List.map_cons, List.map_nil]); first | done | (rw [show (l0.drop (t102 : Int).toNat).length = (l0.length - t102.toNat) from List.length_drop] <;> rfl) | rfl | (simp only [List.length_drop, List.length_take]; rfl)) ?_; (with_reducible refine (wire_Read.calls kj8 _ _ (l0.drop (t102 : Int).toNat) 0 t111 t112 t113 t114 _ ?side1 ?side2 A30.out).mono ?_); (case side1 => repeat (first | exact (Kd.C_below HR110.out HB.out) | (with_reducible refine Kd.C_alloc ?_ _) | (with_reducible refine Kd.C_drewN ?_ _) | (with_reducible refine Kd.C_drew ?_))); (case side2 => exact HC110.out); rintro e w45 ⟨rfl, hb⟩; refine ⟨_, rfl, ?_⟩; have n0_ := Aside0.mk (blk_below (g := gb107) (o := .cells #[.int .i64 t105, .int .i64 t106] 31 (0, 0)) (by (with_reducible repeat (first | refine blk_drewN ?_ _ | refine blk_drew ?_ | refine blk_alloc ?_ _)); exact BK107.out) hb); have n1_ := Aside0.mk (below_step (by repeat (first | (with_reducible first | exact HB.out | apply below_alloc | apply pw_below_drewN | apply below_drew1 | refine below_set ?_ GE107.out) | exact HB.out)) hb); clear BK107; clear HB; have BK107 := n0_; have HB := n1_; clear n0_ n1_; (try clear hb); (try clear hb2); (try clear hk); (try clear hi)) | ((with_reducible refine gate_dst (N := 11) rfl ?_); (try (refine gate_guard (by rfl) ?_; dsimp only)); refine box_event ?hg (N := 11) ?hd (cs := #[.int .i64 0, .int .i64 0]) (t := 31) ?hr ?_; (case hd => rfl); (case hg => rfl); (case hr => first | (go_simp; done) | (go_simp; rfl)); intro gb115 hg w46 hbox hb; have n0_ := Aside0.mk (blk_below (g := gb107) (o := .cells #[.int .i64 t105, .int .i64 t106] 31 (0, 0)) (by (with_reducible repeat (first | refine blk_drewN ?_ _ | refine blk_drew ?_ | refine blk_alloc ?_ _)); exact BK107.out) hb); have n1_ := Aside0.mk (below_step (by repeat (first | (with_reducible first | exact HB.out | apply below_alloc | apply pw_below_drewN | apply below_drew1 | refine below_set ?_ GE107.out) | exact HB.out)) hb); have n2_ := Aside0.mk (hbox); have n3_ := Aside0.mk ((by rw [hg]; exact (below_size (by repeat (first | (with_reducible first | exact HB.out | apply below_alloc | apply pw_below_drewN | apply below_drew1 | refine below_set ?_ GE107.out) | exact HB.out))) : w.heap.size ≤ gb115)); have n4_ := Aside0.mk ((by rw [hg]; exact (below_size (by repeat (first | (with_reducible first | exact HB.out | apply below_alloc | apply pw_below_drewN | apply below_drew1 | refine below_set ?_ GE107.out) | exact HB.out))) : w.heap.size ≤ gb115)); have n5_ := Aside0.mk ((by rw [hg]; exact Nat.ne_of_lt (blk_lt (g := gb107) (o := .cells #[.int .i64 t105, .int .i64 t106] 31 (0, 0)) (by (with_reducible repeat (first | refine blk_drewN ?_ _ | refine blk_drew ?_ | refine blk_alloc ?_ _)); exact BK107.out)) : gb107 ≠ gb115)); have n6_ := Aside0.mk ((by rw [hg]; exact Nat.ne_of_gt (blk_lt (g := gb107) (o := .cells #[.int .i64 t105, .int .i64 t106] 31 (0, 0)) (by (with_reducible repeat (first | refine blk_drewN ?_ _ | refine blk_drew ?_ | refine blk_alloc ?_ _)); exact BK107.out)) : gb115 ≠ gb107)); clear BK107; clear HB; have BK107 := n0_; have HB := n1_; have BK115 := n2_; have GW115 := n3_; have GE115 := n4_; have NB107_115 := n5_; have NB115_107 := n6_; clear n0_ n1_ n2_ n3_ n4_ n5_ n6_; clear hb hbox hg; have hnb47 := NB115_107.out; have hnc47 := NB107_115.out; have hcz48_0 : w46.cell? ⟨gb115, 0, none⟩ = some (.int .i64 0) := (blk_cell BK115.out 0).trans rfl; have hcz48_1 : w46.cell? ⟨gb115, 1, none⟩ = some (.int .i64 0) := (blk_cell BK115.out 1).trans rfl; have hfz48_0 := blk_frozen BK115.out 0; have hfz48_1 := blk_frozen BK115.out 1))
                            go_ret
                            exact ⟨by first | rfl | (simp [errW_none, errW_some] <;> rfl) | (simp only [← hji23]; first | rfl | (simp [errW_none, errW_some] <;> rfl)) | (simp [*, errW_none, errW_some] <;> rfl), by repeat (first | (with_reducible first | exact HB.out | apply below_alloc | apply pw_below_drewN | apply below_drew1 | refine below_set ?_ GE107.out | refine below_set ?_ GE115.out) | exact HB.out)⟩
                        · replace c31 := Bool.eq_false_iff.mpr c31
                          subst c31
                          have H1 : (some false) = some r := by rw [if_neg (show ¬ (false = true) by decide)] at H; exact H
                          clear H
                          have H := H1
                          clear H1
                          obtain rfl := Option.some.inj H
                          have p109 : 0 ≤ ((ji23) : Int) := of_decide_eq_true (by first | (with_reducible assumption) | assumption)
                          have q109 : (ji23) < (l0.length : Int) := of_decide_eq_true (by first | (with_reducible assumption) | assumption)
                          obtain ⟨ad109, e109, hx109_0⟩ := Kd.at_int HR0.out (ji23) p109 q109
                          cases e109
                          replace hx109_0 := (HB.out.cell (World.block_lt_of_cell? w _ hx109_0)).trans hx109_0
                          replace p109 := eq_true p109
                          replace q109 := eq_true q109
                          obtain ⟨i049, hi049, _, hsz49, _⟩ := info_parts info5
                          obtain ⟨A49, hcut49, hA49, hC49⟩ := print_drop_of (P := Try.prog) (Value.int .u8) 0 22 5 .i64 Try.underlying22 hi049 hsz49 (some ad109) c0 l0 t102 (of_decide_eq_true (by first | (with_reducible assumption) | assumption)) (of_decide_eq_true (by first | (with_reducible assumption) | assumption)) HC0.out
                          have HR110 := Aside0.mk (Kd.C_of_reads (h1 := fun _ => rfl) (hA49 _ (Kd.reads_of_C HR0.out)))
                          have HC110 := Aside0.mk hC49
                          clear hA49 hC49 hi049 hsz49
                          go_wp2_with (first | ((with_reducible refine gate_callee (f := 45) rfl ?_); refine goesL_ (some 92) rfl rfl Try.func45 (by kernel_rfl) rfl #[.slice A49 (l0.drop (t102 : Int).toNat).length (c0 - t102.toNat), .int .i64 0] rfl (by (try simp only [List.map_toArray, List.map_cons, List.map_nil]); first | done | (rw [show (l0.drop (t102 : Int).toNat).length = (l0.length - t102.toNat) from List.length_drop] <;> rfl) | rfl | (simp only [List.length_drop, List.length_take]; rfl)) ?_; (with_reducible refine (wire_Read.calls kj8 _ _ (l0.drop (t102 : Int).toNat) 0 t111 t112 t113 t114 _ ?side1 ?side2 A30.out).mono ?_); (case side1 => repeat (first | exact (Kd.C_below HR110.out HB.out) | (with_reducible refine Kd.C_alloc ?_ _) | (with_reducible refine Kd.C_drewN ?_ _) | (with_reducible refine Kd.C_drew ?_))); (case side2 => exact HC110.out); rintro e w50 ⟨rfl, hb⟩; refine ⟨_, rfl, ?_⟩; have n0_ := Aside0.mk (blk_below (g := gb107) (o := .cells #[.int .i64 t105, .int .i64 t106] 31 (0, 0)) (by (with_reducible repeat (first | refine blk_drewN ?_ _ | refine blk_drew ?_ | refine blk_alloc ?_ _)); exact BK107.out) hb); have n1_ := Aside0.mk (below_step (by repeat (first | (with_reducible first | exact HB.out | apply below_alloc | apply pw_below_drewN | apply below_drew1 | refine below_set ?_ GE107.out) | exact HB.out)) hb); clear BK107; clear HB; have BK107 := n0_; have HB := n1_; clear n0_ n1_; (try clear hb); (try clear hb2); (try clear hk); (try clear hi)) | ((with_reducible refine gate_dst (N := 11) rfl ?_); (try (refine gate_guard (by rfl) ?_; dsimp only)); refine box_event ?hg (N := 11) ?hd (cs := #[.int .i64 0, .int .i64 0]) (t := 31) ?hr ?_; (case hd => rfl); (case hg => rfl); (case hr => first | (go_simp; done) | (go_simp; rfl)); intro gb115 hg w51 hbox hb; have n0_ := Aside0.mk (blk_below (g := gb107) (o := .cells #[.int .i64 t105, .int .i64 t106] 31 (0, 0)) (by (with_reducible repeat (first | refine blk_drewN ?_ _ | refine blk_drew ?_ | refine blk_alloc ?_ _)); exact BK107.out) hb); have n1_ := Aside0.mk (below_step (by repeat (first | (with_reducible first | exact HB.out | apply below_alloc | apply pw_below_drewN | apply below_drew1 | refine below_set ?_ GE107.out) | exact HB.out)) hb); have n2_ := Aside0.mk (hbox); have n3_ := Aside0.mk ((by rw [hg]; exact (below_size (by repeat (first | (with_reducible first | exact HB.out | apply below_alloc | apply pw_below_drewN | apply below_drew1 | refine below_set ?_ GE107.out) | exact HB.out))) : w.heap.size ≤ gb115)); have n4_ := Aside0.mk ((by rw [hg]; exact (below_size (by repeat (first | (with_reducible first | exact HB.out | apply below_alloc | apply pw_below_drewN | apply below_drew1 | refine below_set ?_ GE107.out) | exact HB.out))) : w.heap.size ≤ gb115)); have n5_ := Aside0.mk ((by rw [hg]; exact Nat.ne_of_lt (blk_lt (g := gb107) (o := .cells #[.int .i64 t105, .int .i64 t106] 31 (0, 0)) (by (with_reducible repeat (first | refine blk_drewN ?_ _ | refine blk_drew ?_ | refine blk_alloc ?_ _)); exact BK107.out)) : gb107 ≠ gb115)); have n6_ := Aside0.mk ((by rw [hg]; exact Nat.ne_of_gt (blk_lt (g := gb107) (o := .cells #[.int .i64 t105, .int .i64 t106] 31 (0, 0)) (by (with_reducible repeat (first | refine blk_drewN ?_ _ | refine blk_drew ?_ | refine blk_alloc ?_ _)); exact BK107.out)) : gb115 ≠ gb107)); clear BK107; clear HB; have BK107 := n0_; have HB := n1_; have BK115 := n2_; have GW115 := n3_; have GE115 := n4_; have NB107_115 := n5_; have NB115_107 := n6_; clear n0_ n1_ n2_ n3_ n4_ n5_ n6_; clear hb hbox hg; have hnb52 := NB115_107.out; have hnc52 := NB107_115.out; have hcz53_0 : w51.cell? ⟨gb115, 0, none⟩ = some (.int .i64 0) := (blk_cell BK115.out 0).trans rfl; have hcz53_1 : w51.cell? ⟨gb115, 1, none⟩ = some (.int .i64 0) := (blk_cell BK115.out 1).trans rfl; have hfz53_0 := blk_frozen BK115.out 0; have hfz53_1 := blk_frozen BK115.out 1))
                          go_ret
                          exact ⟨by first | rfl | (simp [errW_none, errW_some] <;> rfl) | (simp only [← hji23]; first | rfl | (simp [errW_none, errW_some] <;> rfl)) | (simp [*, errW_none, errW_some] <;> rfl), by repeat (first | (with_reducible first | exact HB.out | apply below_alloc | apply pw_below_drewN | apply below_drew1 | refine below_set ?_ GE107.out | refine below_set ?_ GE115.out) | exact HB.out)⟩
                      · rw [if_neg c29] at H
                        exact absurd H (by simp)
                    · rw [if_neg c28] at H
                      exact absurd H (by simp)
                  · rw [if_neg c27] at H
                    have c27b0 : ((wrap64 (t104 - t102)) == (t103.size : Int)) = false := beq_eq_false_iff_ne.mpr c27
                    have c27b1 : ((wrap64 (t104 - t102)) != (t103.size : Int)) = true := bne_iff_ne.mpr c27
                    obtain rfl := Option.some.inj H
                    have p109 : 0 ≤ ((ji23) : Int) := of_decide_eq_true (by first | (with_reducible assumption) | assumption)
                    have q109 : (ji23) < (l0.length : Int) := of_decide_eq_true (by first | (with_reducible assumption) | assumption)
                    obtain ⟨ad109, e109, hx109_0⟩ := Kd.at_int HR0.out (ji23) p109 q109
                    cases e109
                    replace hx109_0 := (HB.out.cell (World.block_lt_of_cell? w _ hx109_0)).trans hx109_0
                    replace p109 := eq_true p109
                    replace q109 := eq_true q109
                    go_wp2
                    go_ret
                    exact ⟨by first | rfl | (simp [errW_none, errW_some] <;> rfl) | (simp only [← hji23]; first | rfl | (simp [errW_none, errW_some] <;> rfl)) | (simp [*, errW_none, errW_some] <;> rfl), by repeat (first | (with_reducible first | exact HB.out | apply below_alloc | apply pw_below_drewN | apply below_drew1 | refine below_set ?_ GE107.out) | exact HB.out)⟩
                · rw [if_neg c26] at H
                  have c26b0 : ((rd l0 (ji23)) == 0) = false := beq_eq_false_iff_ne.mpr c26
                  have c26b1 : ((rd l0 (ji23)) != 0) = true := bne_iff_ne.mpr c26
                  obtain rfl := Option.some.inj H
                  have p109 : 0 ≤ ((ji23) : Int) := of_decide_eq_true (by first | (with_reducible assumption) | assumption)
                  have q109 : (ji23) < (l0.length : Int) := of_decide_eq_true (by first | (with_reducible assumption) | assumption)
                  obtain ⟨ad109, e109, hx109_0⟩ := Kd.at_int HR0.out (ji23) p109 q109
                  cases e109
                  replace hx109_0 := (HB.out.cell (World.block_lt_of_cell? w _ hx109_0)).trans hx109_0
                  replace p109 := eq_true p109
                  replace q109 := eq_true q109
                  go_wp2
                  go_ret
                  exact ⟨by first | rfl | (simp [errW_none, errW_some] <;> rfl) | (simp only [← hji23]; first | rfl | (simp [errW_none, errW_some] <;> rfl)) | (simp [*, errW_none, errW_some] <;> rfl), by repeat (first | (with_reducible first | exact HB.out | apply below_alloc | apply pw_below_drewN | apply below_drew1 | refine below_set ?_ GE107.out) | exact HB.out)⟩
              · rw [if_neg c25] at H
                exact absurd H (by simp)
            · rw [if_neg c24] at H
              exact absurd H (by simp)
    · rw [if_neg c8] at H
      have c8b0 : (t105 == 0) = false := beq_eq_false_iff_ne.mpr c8
      have c8b1 : (t105 != 0) = true := bne_iff_ne.mpr c8
      by_cases c54 : t101 = true
      · subst c54
        have H1 : (if t103.toList = ([] : List UInt8) then (if t104 = 0 then (if t106 ≥ 0 then (some (decide (t106 ≤ (l0.length : Int)))) else (some false)) else (some false)) else (some false)) = some r := by rw [if_pos rfl] at H; exact H
        clear H
        have H := H1
        clear H1
        by_cases c55 : t103.toList = ([] : List UInt8)
        · rw [if_pos c55] at H
          have c55b0 : (t103.toList == ([] : List UInt8)) = true := beq_iff_eq.mpr c55
          have c55b1 : (t103.toList != ([] : List UInt8)) = false := bne_eq_false_iff_eq.mpr c55
          clear c55
          by_cases c56 : t104 = 0
          · rw [if_pos c56] at H
            have c56b0 : (t104 == 0) = true := beq_iff_eq.mpr c56
            have c56b1 : (t104 != 0) = false := bne_eq_false_iff_eq.mpr c56
            clear c56
            by_cases c57 : t106 ≥ 0
            · rw [if_pos c57] at H
              have c57b0 : decide (0 ≤ t106) = true := decide_eq_true c57
              clear c57
              obtain rfl := Option.some.inj H
              go_enter Try.func9, Try.ntmps9
              go_wp2_with (first | ((with_reducible refine gate_callee (f := 47) rfl ?_); refine goesL_ (some 12) rfl rfl Try.func47 (by kernel_rfl) rfl #[] rfl (by (try simp only [List.map_toArray, List.map_cons, List.map_nil]); first | done | rfl | (simp only [List.length_drop, List.length_take]; rfl)) ?_; (with_reducible refine (ostiarylaw05_awake.calls k  true _ A3.out).mono ?_); rintro e w58 ⟨rfl, hb⟩; refine ⟨_, rfl, ?_⟩; have n0_ := Aside0.mk (below_step (by repeat (first | (with_reducible first | exact HB.out | apply below_alloc | apply pw_below_drewN | apply below_drew1) | exact HB.out)) hb); clear HB; have HB := n0_; clear n0_; (try clear hb); (try clear hb2); (try clear hk); (try clear hi)) | ((with_reducible refine gate_callee (f := 38) rfl ?_); refine goesL_ (some 21) rfl rfl Try.func38 (by kernel_rfl) rfl #[.int .i64 a1, .int .i64 (wrap64 ((l0.length : Int) + 1))] rfl (by (try simp only [List.map_toArray, List.map_cons, List.map_nil]); first | done | rfl | (simp only [List.length_drop, List.length_take]; rfl)) ?_; (with_reducible refine (ostiarykit_Pick.calls a1 (wrap64 ((l0.length : Int) + 1)) t102 _ A6.out).mono ?_); rintro e w' ⟨rfl, ⟨nd, rfl⟩⟩; refine ⟨_, rfl, ?_⟩; (try (rw [drewN_self w58]; generalize hq_ : World.drewN w58 _ = w58; have n0_ : Aside0 (Below w.heap.size w w58) := ⟨by rw [← hq_]; exact (by repeat (first | (with_reducible first | exact HB.out | apply below_alloc | apply pw_below_drewN | apply below_drew1) | exact HB.out))⟩; clear HB hq_; have HB := n0_; clear n0_))) | ((with_reducible refine gate_callee (f := 45) rfl ?_); refine goesL_ (some 25) rfl rfl Try.func45 (by kernel_rfl) rfl #[.slice A0 l0.length c0, .int .i64 t102] rfl (by (try simp only [List.map_toArray, List.map_cons, List.map_nil]); first | done | rfl | (simp only [List.length_drop, List.length_take]; rfl)) ?_; (with_reducible refine (wire_Read.calls k _ _ l0 t102 t103 t104 t105 t106 _ ?side1 ?side2 A7.out).mono ?_); (case side1 => repeat (first | exact (Kd.C_below HR0.out HB.out) | (with_reducible refine Kd.C_alloc ?_ _) | (with_reducible refine Kd.C_drewN ?_ _) | (with_reducible refine Kd.C_drew ?_))); (case side2 => exact HC0.out); rintro e w59 ⟨rfl, hb⟩; refine ⟨_, rfl, ?_⟩; have n0_ := Aside0.mk (below_step (by repeat (first | (with_reducible first | exact HB.out | apply below_alloc | apply pw_below_drewN | apply below_drew1) | exact HB.out)) hb); clear HB; have HB := n0_; clear n0_; (try clear hb); (try clear hb2); (try clear hk); (try clear hi)) | ((with_reducible refine gate_dst (N := 8) rfl ?_); (try (refine gate_guard (by rfl) ?_; dsimp only)); refine box_event ?hg (N := 8) ?hd (cs := #[.int .i64 0, .int .i64 0]) (t := 31) ?hr ?_; (case hd => rfl); (case hg => rfl); (case hr => first | (go_simp; done) | (go_simp; rfl)); intro gb107 hg w60 hbox hb; have n0_ := Aside0.mk (below_step (by repeat (first | (with_reducible first | exact HB.out | apply below_alloc | apply pw_below_drewN | apply below_drew1) | exact HB.out)) hb); have n1_ := Aside0.mk (hbox); have n2_ := Aside0.mk ((by rw [hg]; exact (below_size (by repeat (first | (with_reducible first | exact HB.out | apply below_alloc | apply pw_below_drewN | apply below_drew1) | exact HB.out))) : w.heap.size ≤ gb107)); have n3_ := Aside0.mk ((by rw [hg]; exact (below_size (by repeat (first | (with_reducible first | exact HB.out | apply below_alloc | apply pw_below_drewN | apply below_drew1) | exact HB.out))) : w.heap.size ≤ gb107)); clear HB; have HB := n0_; have BK107 := n1_; have GW107 := n2_; have GE107 := n3_; clear n0_ n1_ n2_ n3_; clear hb hbox hg; have hcz61_0 : w60.cell? ⟨gb107, 0, none⟩ = some (.int .i64 0) := (blk_cell BK107.out 0).trans rfl; have hcz61_1 : w60.cell? ⟨gb107, 1, none⟩ = some (.int .i64 0) := (blk_cell BK107.out 1).trans rfl; have hfz61_0 := blk_frozen BK107.out 0; have hfz61_1 := blk_frozen BK107.out 1))
              go_ret
              exact ⟨by first | rfl | (simp [errW_none, errW_some] <;> rfl) | (simp [*, errW_none, errW_some] <;> rfl), by repeat (first | (with_reducible first | exact HB.out | apply below_alloc | apply pw_below_drewN | apply below_drew1 | refine below_set ?_ GE107.out) | exact HB.out)⟩
            · rw [if_neg c57] at H
              have c57b0 : decide (0 ≤ t106) = false := decide_eq_false c57
              clear c57
              obtain rfl := Option.some.inj H
              go_enter Try.func9, Try.ntmps9
              go_wp2_with (first | ((with_reducible refine gate_callee (f := 47) rfl ?_); refine goesL_ (some 12) rfl rfl Try.func47 (by kernel_rfl) rfl #[] rfl (by (try simp only [List.map_toArray, List.map_cons, List.map_nil]); first | done | rfl | (simp only [List.length_drop, List.length_take]; rfl)) ?_; (with_reducible refine (ostiarylaw05_awake.calls k  true _ A3.out).mono ?_); rintro e w62 ⟨rfl, hb⟩; refine ⟨_, rfl, ?_⟩; have n0_ := Aside0.mk (below_step (by repeat (first | (with_reducible first | exact HB.out | apply below_alloc | apply pw_below_drewN | apply below_drew1) | exact HB.out)) hb); clear HB; have HB := n0_; clear n0_; (try clear hb); (try clear hb2); (try clear hk); (try clear hi)) | ((with_reducible refine gate_callee (f := 38) rfl ?_); refine goesL_ (some 21) rfl rfl Try.func38 (by kernel_rfl) rfl #[.int .i64 a1, .int .i64 (wrap64 ((l0.length : Int) + 1))] rfl (by (try simp only [List.map_toArray, List.map_cons, List.map_nil]); first | done | rfl | (simp only [List.length_drop, List.length_take]; rfl)) ?_; (with_reducible refine (ostiarykit_Pick.calls a1 (wrap64 ((l0.length : Int) + 1)) t102 _ A6.out).mono ?_); rintro e w' ⟨rfl, ⟨nd, rfl⟩⟩; refine ⟨_, rfl, ?_⟩; (try (rw [drewN_self w62]; generalize hq_ : World.drewN w62 _ = w62; have n0_ : Aside0 (Below w.heap.size w w62) := ⟨by rw [← hq_]; exact (by repeat (first | (with_reducible first | exact HB.out | apply below_alloc | apply pw_below_drewN | apply below_drew1) | exact HB.out))⟩; clear HB hq_; have HB := n0_; clear n0_))) | ((with_reducible refine gate_callee (f := 45) rfl ?_); refine goesL_ (some 25) rfl rfl Try.func45 (by kernel_rfl) rfl #[.slice A0 l0.length c0, .int .i64 t102] rfl (by (try simp only [List.map_toArray, List.map_cons, List.map_nil]); first | done | rfl | (simp only [List.length_drop, List.length_take]; rfl)) ?_; (with_reducible refine (wire_Read.calls k _ _ l0 t102 t103 t104 t105 t106 _ ?side1 ?side2 A7.out).mono ?_); (case side1 => repeat (first | exact (Kd.C_below HR0.out HB.out) | (with_reducible refine Kd.C_alloc ?_ _) | (with_reducible refine Kd.C_drewN ?_ _) | (with_reducible refine Kd.C_drew ?_))); (case side2 => exact HC0.out); rintro e w63 ⟨rfl, hb⟩; refine ⟨_, rfl, ?_⟩; have n0_ := Aside0.mk (below_step (by repeat (first | (with_reducible first | exact HB.out | apply below_alloc | apply pw_below_drewN | apply below_drew1) | exact HB.out)) hb); clear HB; have HB := n0_; clear n0_; (try clear hb); (try clear hb2); (try clear hk); (try clear hi)) | ((with_reducible refine gate_dst (N := 8) rfl ?_); (try (refine gate_guard (by rfl) ?_; dsimp only)); refine box_event ?hg (N := 8) ?hd (cs := #[.int .i64 0, .int .i64 0]) (t := 31) ?hr ?_; (case hd => rfl); (case hg => rfl); (case hr => first | (go_simp; done) | (go_simp; rfl)); intro gb107 hg w64 hbox hb; have n0_ := Aside0.mk (below_step (by repeat (first | (with_reducible first | exact HB.out | apply below_alloc | apply pw_below_drewN | apply below_drew1) | exact HB.out)) hb); have n1_ := Aside0.mk (hbox); have n2_ := Aside0.mk ((by rw [hg]; exact (below_size (by repeat (first | (with_reducible first | exact HB.out | apply below_alloc | apply pw_below_drewN | apply below_drew1) | exact HB.out))) : w.heap.size ≤ gb107)); have n3_ := Aside0.mk ((by rw [hg]; exact (below_size (by repeat (first | (with_reducible first | exact HB.out | apply below_alloc | apply pw_below_drewN | apply below_drew1) | exact HB.out))) : w.heap.size ≤ gb107)); clear HB; have HB := n0_; have BK107 := n1_; have GW107 := n2_; have GE107 := n3_; clear n0_ n1_ n2_ n3_; clear hb hbox hg; have hcz65_0 : w64.cell? ⟨gb107, 0, none⟩ = some (.int .i64 0) := (blk_cell BK107.out 0).trans rfl; have hcz65_1 : w64.cell? ⟨gb107, 1, none⟩ = some (.int .i64 0) := (blk_cell BK107.out 1).trans rfl; have hfz65_0 := blk_frozen BK107.out 0; have hfz65_1 := blk_frozen BK107.out 1))
              go_ret
              exact ⟨by first | rfl | (simp [errW_none, errW_some] <;> rfl) | (simp [*, errW_none, errW_some] <;> rfl), by repeat (first | (with_reducible first | exact HB.out | apply below_alloc | apply pw_below_drewN | apply below_drew1 | refine below_set ?_ GE107.out) | exact HB.out)⟩
          · rw [if_neg c56] at H
            have c56b0 : (t104 == 0) = false := beq_eq_false_iff_ne.mpr c56
            have c56b1 : (t104 != 0) = true := bne_iff_ne.mpr c56
            obtain rfl := Option.some.inj H
            go_enter Try.func9, Try.ntmps9
            go_wp2_with (first | ((with_reducible refine gate_callee (f := 47) rfl ?_); refine goesL_ (some 12) rfl rfl Try.func47 (by kernel_rfl) rfl #[] rfl (by (try simp only [List.map_toArray, List.map_cons, List.map_nil]); first | done | rfl | (simp only [List.length_drop, List.length_take]; rfl)) ?_; (with_reducible refine (ostiarylaw05_awake.calls k  true _ A3.out).mono ?_); rintro e w66 ⟨rfl, hb⟩; refine ⟨_, rfl, ?_⟩; have n0_ := Aside0.mk (below_step (by repeat (first | (with_reducible first | exact HB.out | apply below_alloc | apply pw_below_drewN | apply below_drew1) | exact HB.out)) hb); clear HB; have HB := n0_; clear n0_; (try clear hb); (try clear hb2); (try clear hk); (try clear hi)) | ((with_reducible refine gate_callee (f := 38) rfl ?_); refine goesL_ (some 21) rfl rfl Try.func38 (by kernel_rfl) rfl #[.int .i64 a1, .int .i64 (wrap64 ((l0.length : Int) + 1))] rfl (by (try simp only [List.map_toArray, List.map_cons, List.map_nil]); first | done | rfl | (simp only [List.length_drop, List.length_take]; rfl)) ?_; (with_reducible refine (ostiarykit_Pick.calls a1 (wrap64 ((l0.length : Int) + 1)) t102 _ A6.out).mono ?_); rintro e w' ⟨rfl, ⟨nd, rfl⟩⟩; refine ⟨_, rfl, ?_⟩; (try (rw [drewN_self w66]; generalize hq_ : World.drewN w66 _ = w66; have n0_ : Aside0 (Below w.heap.size w w66) := ⟨by rw [← hq_]; exact (by repeat (first | (with_reducible first | exact HB.out | apply below_alloc | apply pw_below_drewN | apply below_drew1) | exact HB.out))⟩; clear HB hq_; have HB := n0_; clear n0_))) | ((with_reducible refine gate_callee (f := 45) rfl ?_); refine goesL_ (some 25) rfl rfl Try.func45 (by kernel_rfl) rfl #[.slice A0 l0.length c0, .int .i64 t102] rfl (by (try simp only [List.map_toArray, List.map_cons, List.map_nil]); first | done | rfl | (simp only [List.length_drop, List.length_take]; rfl)) ?_; (with_reducible refine (wire_Read.calls k _ _ l0 t102 t103 t104 t105 t106 _ ?side1 ?side2 A7.out).mono ?_); (case side1 => repeat (first | exact (Kd.C_below HR0.out HB.out) | (with_reducible refine Kd.C_alloc ?_ _) | (with_reducible refine Kd.C_drewN ?_ _) | (with_reducible refine Kd.C_drew ?_))); (case side2 => exact HC0.out); rintro e w67 ⟨rfl, hb⟩; refine ⟨_, rfl, ?_⟩; have n0_ := Aside0.mk (below_step (by repeat (first | (with_reducible first | exact HB.out | apply below_alloc | apply pw_below_drewN | apply below_drew1) | exact HB.out)) hb); clear HB; have HB := n0_; clear n0_; (try clear hb); (try clear hb2); (try clear hk); (try clear hi)) | ((with_reducible refine gate_dst (N := 8) rfl ?_); (try (refine gate_guard (by rfl) ?_; dsimp only)); refine box_event ?hg (N := 8) ?hd (cs := #[.int .i64 0, .int .i64 0]) (t := 31) ?hr ?_; (case hd => rfl); (case hg => rfl); (case hr => first | (go_simp; done) | (go_simp; rfl)); intro gb107 hg w68 hbox hb; have n0_ := Aside0.mk (below_step (by repeat (first | (with_reducible first | exact HB.out | apply below_alloc | apply pw_below_drewN | apply below_drew1) | exact HB.out)) hb); have n1_ := Aside0.mk (hbox); have n2_ := Aside0.mk ((by rw [hg]; exact (below_size (by repeat (first | (with_reducible first | exact HB.out | apply below_alloc | apply pw_below_drewN | apply below_drew1) | exact HB.out))) : w.heap.size ≤ gb107)); have n3_ := Aside0.mk ((by rw [hg]; exact (below_size (by repeat (first | (with_reducible first | exact HB.out | apply below_alloc | apply pw_below_drewN | apply below_drew1) | exact HB.out))) : w.heap.size ≤ gb107)); clear HB; have HB := n0_; have BK107 := n1_; have GW107 := n2_; have GE107 := n3_; clear n0_ n1_ n2_ n3_; clear hb hbox hg; have hcz69_0 : w68.cell? ⟨gb107, 0, none⟩ = some (.int .i64 0) := (blk_cell BK107.out 0).trans rfl; have hcz69_1 : w68.cell? ⟨gb107, 1, none⟩ = some (.int .i64 0) := (blk_cell BK107.out 1).trans rfl; have hfz69_0 := blk_frozen BK107.out 0; have hfz69_1 := blk_frozen BK107.out 1))
            go_ret
            exact ⟨by first | rfl | (simp [errW_none, errW_some] <;> rfl) | (simp [*, errW_none, errW_some] <;> rfl), by repeat (first | (with_reducible first | exact HB.out | apply below_alloc | apply pw_below_drewN | apply below_drew1 | refine below_set ?_ GE107.out) | exact HB.out)⟩
        · rw [if_neg c55] at H
          have c55b0 : (t103.toList == ([] : List UInt8)) = false := beq_eq_false_iff_ne.mpr c55
          have c55b1 : (t103.toList != ([] : List UInt8)) = true := bne_iff_ne.mpr c55
          obtain rfl := Option.some.inj H
          go_enter Try.func9, Try.ntmps9
          go_wp2_with (first | ((with_reducible refine gate_callee (f := 47) rfl ?_); refine goesL_ (some 12) rfl rfl Try.func47 (by kernel_rfl) rfl #[] rfl (by (try simp only [List.map_toArray, List.map_cons, List.map_nil]); first | done | rfl | (simp only [List.length_drop, List.length_take]; rfl)) ?_; (with_reducible refine (ostiarylaw05_awake.calls k  true _ A3.out).mono ?_); rintro e w70 ⟨rfl, hb⟩; refine ⟨_, rfl, ?_⟩; have n0_ := Aside0.mk (below_step (by repeat (first | (with_reducible first | exact HB.out | apply below_alloc | apply pw_below_drewN | apply below_drew1) | exact HB.out)) hb); clear HB; have HB := n0_; clear n0_; (try clear hb); (try clear hb2); (try clear hk); (try clear hi)) | ((with_reducible refine gate_callee (f := 38) rfl ?_); refine goesL_ (some 21) rfl rfl Try.func38 (by kernel_rfl) rfl #[.int .i64 a1, .int .i64 (wrap64 ((l0.length : Int) + 1))] rfl (by (try simp only [List.map_toArray, List.map_cons, List.map_nil]); first | done | rfl | (simp only [List.length_drop, List.length_take]; rfl)) ?_; (with_reducible refine (ostiarykit_Pick.calls a1 (wrap64 ((l0.length : Int) + 1)) t102 _ A6.out).mono ?_); rintro e w' ⟨rfl, ⟨nd, rfl⟩⟩; refine ⟨_, rfl, ?_⟩; (try (rw [drewN_self w70]; generalize hq_ : World.drewN w70 _ = w70; have n0_ : Aside0 (Below w.heap.size w w70) := ⟨by rw [← hq_]; exact (by repeat (first | (with_reducible first | exact HB.out | apply below_alloc | apply pw_below_drewN | apply below_drew1) | exact HB.out))⟩; clear HB hq_; have HB := n0_; clear n0_))) | ((with_reducible refine gate_callee (f := 45) rfl ?_); refine goesL_ (some 25) rfl rfl Try.func45 (by kernel_rfl) rfl #[.slice A0 l0.length c0, .int .i64 t102] rfl (by (try simp only [List.map_toArray, List.map_cons, List.map_nil]); first | done | rfl | (simp only [List.length_drop, List.length_take]; rfl)) ?_; (with_reducible refine (wire_Read.calls k _ _ l0 t102 t103 t104 t105 t106 _ ?side1 ?side2 A7.out).mono ?_); (case side1 => repeat (first | exact (Kd.C_below HR0.out HB.out) | (with_reducible refine Kd.C_alloc ?_ _) | (with_reducible refine Kd.C_drewN ?_ _) | (with_reducible refine Kd.C_drew ?_))); (case side2 => exact HC0.out); rintro e w71 ⟨rfl, hb⟩; refine ⟨_, rfl, ?_⟩; have n0_ := Aside0.mk (below_step (by repeat (first | (with_reducible first | exact HB.out | apply below_alloc | apply pw_below_drewN | apply below_drew1) | exact HB.out)) hb); clear HB; have HB := n0_; clear n0_; (try clear hb); (try clear hb2); (try clear hk); (try clear hi)) | ((with_reducible refine gate_dst (N := 8) rfl ?_); (try (refine gate_guard (by rfl) ?_; dsimp only)); refine box_event ?hg (N := 8) ?hd (cs := #[.int .i64 0, .int .i64 0]) (t := 31) ?hr ?_; (case hd => rfl); (case hg => rfl); (case hr => first | (go_simp; done) | (go_simp; rfl)); intro gb107 hg w72 hbox hb; have n0_ := Aside0.mk (below_step (by repeat (first | (with_reducible first | exact HB.out | apply below_alloc | apply pw_below_drewN | apply below_drew1) | exact HB.out)) hb); have n1_ := Aside0.mk (hbox); have n2_ := Aside0.mk ((by rw [hg]; exact (below_size (by repeat (first | (with_reducible first | exact HB.out | apply below_alloc | apply pw_below_drewN | apply below_drew1) | exact HB.out))) : w.heap.size ≤ gb107)); have n3_ := Aside0.mk ((by rw [hg]; exact (below_size (by repeat (first | (with_reducible first | exact HB.out | apply below_alloc | apply pw_below_drewN | apply below_drew1) | exact HB.out))) : w.heap.size ≤ gb107)); clear HB; have HB := n0_; have BK107 := n1_; have GW107 := n2_; have GE107 := n3_; clear n0_ n1_ n2_ n3_; clear hb hbox hg; have hcz73_0 : w72.cell? ⟨gb107, 0, none⟩ = some (.int .i64 0) := (blk_cell BK107.out 0).trans rfl; have hcz73_1 : w72.cell? ⟨gb107, 1, none⟩ = some (.int .i64 0) := (blk_cell BK107.out 1).trans rfl; have hfz73_0 := blk_frozen BK107.out 0; have hfz73_1 := blk_frozen BK107.out 1))
          go_ret
          exact ⟨by first | rfl | (simp [errW_none, errW_some] <;> rfl) | (simp [*, errW_none, errW_some] <;> rfl), by repeat (first | (with_reducible first | exact HB.out | apply below_alloc | apply pw_below_drewN | apply below_drew1 | refine below_set ?_ GE107.out) | exact HB.out)⟩
      · replace c54 := Bool.eq_false_iff.mpr c54
        subst c54
        have H1 : (some false) = some r := by rw [if_neg (show ¬ (false = true) by decide)] at H; exact H
        clear H
        have H := H1
        clear H1
        obtain rfl := Option.some.inj H
        go_enter Try.func9, Try.ntmps9
        go_wp2_with (first | ((with_reducible refine gate_callee (f := 47) rfl ?_); refine goesL_ (some 12) rfl rfl Try.func47 (by kernel_rfl) rfl #[] rfl (by (try simp only [List.map_toArray, List.map_cons, List.map_nil]); first | done | rfl | (simp only [List.length_drop, List.length_take]; rfl)) ?_; (with_reducible refine (ostiarylaw05_awake.calls k  false _ A3.out).mono ?_); rintro e w74 ⟨rfl, hb⟩; refine ⟨_, rfl, ?_⟩; have n0_ := Aside0.mk (below_step (by repeat (first | (with_reducible first | exact HB.out | apply below_alloc | apply pw_below_drewN | apply below_drew1) | exact HB.out)) hb); clear HB; have HB := n0_; clear n0_; (try clear hb); (try clear hb2); (try clear hk); (try clear hi)) | ((with_reducible refine gate_callee (f := 38) rfl ?_); refine goesL_ (some 21) rfl rfl Try.func38 (by kernel_rfl) rfl #[.int .i64 a1, .int .i64 (wrap64 ((l0.length : Int) + 1))] rfl (by (try simp only [List.map_toArray, List.map_cons, List.map_nil]); first | done | rfl | (simp only [List.length_drop, List.length_take]; rfl)) ?_; (with_reducible refine (ostiarykit_Pick.calls a1 (wrap64 ((l0.length : Int) + 1)) t102 _ A6.out).mono ?_); rintro e w' ⟨rfl, ⟨nd, rfl⟩⟩; refine ⟨_, rfl, ?_⟩; (try (rw [drewN_self w74]; generalize hq_ : World.drewN w74 _ = w74; have n0_ : Aside0 (Below w.heap.size w w74) := ⟨by rw [← hq_]; exact (by repeat (first | (with_reducible first | exact HB.out | apply below_alloc | apply pw_below_drewN | apply below_drew1) | exact HB.out))⟩; clear HB hq_; have HB := n0_; clear n0_))) | ((with_reducible refine gate_callee (f := 45) rfl ?_); refine goesL_ (some 25) rfl rfl Try.func45 (by kernel_rfl) rfl #[.slice A0 l0.length c0, .int .i64 t102] rfl (by (try simp only [List.map_toArray, List.map_cons, List.map_nil]); first | done | rfl | (simp only [List.length_drop, List.length_take]; rfl)) ?_; (with_reducible refine (wire_Read.calls k _ _ l0 t102 t103 t104 t105 t106 _ ?side1 ?side2 A7.out).mono ?_); (case side1 => repeat (first | exact (Kd.C_below HR0.out HB.out) | (with_reducible refine Kd.C_alloc ?_ _) | (with_reducible refine Kd.C_drewN ?_ _) | (with_reducible refine Kd.C_drew ?_))); (case side2 => exact HC0.out); rintro e w75 ⟨rfl, hb⟩; refine ⟨_, rfl, ?_⟩; have n0_ := Aside0.mk (below_step (by repeat (first | (with_reducible first | exact HB.out | apply below_alloc | apply pw_below_drewN | apply below_drew1) | exact HB.out)) hb); clear HB; have HB := n0_; clear n0_; (try clear hb); (try clear hb2); (try clear hk); (try clear hi)) | ((with_reducible refine gate_dst (N := 8) rfl ?_); (try (refine gate_guard (by rfl) ?_; dsimp only)); refine box_event ?hg (N := 8) ?hd (cs := #[.int .i64 0, .int .i64 0]) (t := 31) ?hr ?_; (case hd => rfl); (case hg => rfl); (case hr => first | (go_simp; done) | (go_simp; rfl)); intro gb107 hg w76 hbox hb; have n0_ := Aside0.mk (below_step (by repeat (first | (with_reducible first | exact HB.out | apply below_alloc | apply pw_below_drewN | apply below_drew1) | exact HB.out)) hb); have n1_ := Aside0.mk (hbox); have n2_ := Aside0.mk ((by rw [hg]; exact (below_size (by repeat (first | (with_reducible first | exact HB.out | apply below_alloc | apply pw_below_drewN | apply below_drew1) | exact HB.out))) : w.heap.size ≤ gb107)); have n3_ := Aside0.mk ((by rw [hg]; exact (below_size (by repeat (first | (with_reducible first | exact HB.out | apply below_alloc | apply pw_below_drewN | apply below_drew1) | exact HB.out))) : w.heap.size ≤ gb107)); clear HB; have HB := n0_; have BK107 := n1_; have GW107 := n2_; have GE107 := n3_; clear n0_ n1_ n2_ n3_; clear hb hbox hg; have hcz77_0 : w76.cell? ⟨gb107, 0, none⟩ = some (.int .i64 0) := (blk_cell BK107.out 0).trans rfl; have hcz77_1 : w76.cell? ⟨gb107, 1, none⟩ = some (.int .i64 0) := (blk_cell BK107.out 1).trans rfl; have hfz77_0 := blk_frozen BK107.out 0; have hfz77_1 := blk_frozen BK107.out 1))
        go_ret
        exact ⟨by first | rfl | (simp [errW_none, errW_some] <;> rfl) | (simp [*, errW_none, errW_some] <;> rfl), by repeat (first | (with_reducible first | exact HB.out | apply below_alloc | apply pw_below_drewN | apply below_drew1 | refine below_set ?_ GE107.out) | exact HB.out)⟩

/-- THE ONE PURE STATEMENT of ostiarylaw05_WireEnds: yours. -/
def ostiarylaw05_WireEnds.Pure : Prop := ∀ (l0 : List Int) (a1 : Int), l0.length ≤ maxLen → l0.length * 1 ≤ 140737488351232 → (∀ x ∈ l0, (Lit.int .u8 x).wf = true) → (Lit.int .i64 a1).wf = true → ∃ k, ostiarylaw05_WireEnds.f k l0 a1 = some true
theorem ostiarylaw05_WireEnds.walk (P : ostiarylaw05_WireEnds.Pure) (a0 : Option Addr) (len0 cap0 : Nat) (z0 : List Int) (a1 : Int) (w : World) (w0 : (a0 = none ∧ len0 = 0 ∧ cap0 = 0 ∧ z0 = []) ∨ ∃ x, a0 = some x ∧ len0 ≤ cap0 ∧ cap0 ≤ maxLen ∧ z0.length = cap0 ∧ (∀ i, i < z0.length → w.cell? (x.add i) = some (.int .u8 (z0.getD i 0))) ∧ ∀ n ∈ z0, (Lit.int .u8 n).wf = true) (y0 : len0 * 1 ≤ 140737488351232) (w1 : (Lit.int .i64 a1).wf = true) :
    Calls Try.prog 9 #[.slice a0 len0 cap0, .int .i64 a1] w fun e w' => e = .returned (.bool true) ∧ Below w.heap.size w w' := by
  obtain ⟨l0, rfl, hr0, hm0, hw0, hc0⟩ := ReadsInt.ofRowC w0
  obtain ⟨k, h⟩ := P l0 a1 hm0 y0 hw0 w1
  refine (ostiarylaw05_WireEnds.calls k _ _ l0 a1 true w (Kd.C_of_reads (d := (0 : Int)) (h1 := fun _ => rfl) hr0) hc0 h).mono ?_
  rintro e w' ⟨rfl, hd⟩
  exact ⟨rfl, hd⟩

end Go.Proofs.Ytjjbhpbmfpodeaa.X
end
