/- A law of the document, proved of the program: its own texts (plain functions, the walks, plain lemmas, the row), one behind the other. Conditions: those in the theorems. Part 1 of 4. Laid by the session's program wip/merge2.py. -/
import Derived.Test.YtjjbhpbmfpodeaaRows
import Derived.Test.YtjjbhpbmfpodeaaProg
import Derived.Below
import Derived.Deep.Draws
import Derived.Deep.AppendLies
import Derived.Maps.AppendAt
import Derived.OwnWalk
import Derived.Laws.BytesArg
import Derived.Laws.MakeOwn
import Derived.Laws.OwnMore
import Derived.Deep.OwnRows
import Derived.Tactics
import Derived.Lib.ConvBytes
import Derived.Laws.Slices
import Derived.WalkKit
import Derived.KernelRfl
import Derived.RowKit3
import Derived.Deep.LoopGhost
import Derived.Deep.QuietTactic
import Derived.BigQuiet
import Derived.WideLaws
import Derived.Deep.DeepCutAuto
import Derived.Deep.CutBlock
import Derived.Deep.RegionHeld3
import Derived.Laws.Rows
import Derived.Lib.AppendStr
import Derived.ArgAppend
import Derived.Laws.IdiomCopy
import Derived.OrdersHeld
import Derived.Laws.BitsLemmas
import Derived.RowKit
import Derived.Test.YtjjbhpbmfpodeaaWWords
import Derived.Test.YtjjbhpbmfpodeaaWLast
import Derived.Test.YtjjbhpbmfpodeaaWTab
import Derived.Test.YtjjbhpbmfpodeaaWFour
import Derived.Test.YtjjbhpbmfpodeaaWQPut
import Derived.Test.YtjjbhpbmfpodeaaWApart
import Derived.Test.YtjjbhpbmfpodeaaWArr
import Derived.Test.YtjjbhpbmfpodeaaWZeros
import Derived.Test.YtjjbhpbmfpodeaaWFoot
import Derived.Test.YtjjbhpbmfpodeaaWKept
import Derived.Test.YtjjbhpbmfpodeaaWShare
import Derived.Test.YtjjbhpbmfpodeaaWN
import Derived.Test.YtjjbhpbmfpodeaaWFootNe
import Derived.Test.YtjjbhpbmfpodeaaWAt
import Derived.Test.YtjjbhpbmfpodeaaWEqStruct
import Derived.Test.YtjjbhpbmfpodeaaWRepsOne
import Derived.Test.YtjjbhpbmfpodeaaWInv
import Derived.Test.YtjjbhpbmfpodeaaWInvWords
import Derived.Test.YtjjbhpbmfpodeaaWGuard
import Derived.Test.YtjjbhpbmfpodeaaWNEv
import Derived.Test.YtjjbhpbmfpodeaaWMore
import Derived.RangeFuncWrites
import Derived.RangeFuncLeaves
import Derived.RangeFuncBox
import Derived.Deep.WholeRow
import Derived.Deep.RegionHeld
import Derived.Laws.CopyRow
import Derived.OwnWalkIn
import Derived.TacticsInMore
import Derived.LoopNIn
import Derived.LoopIn
import Derived.Sort.QuietIn
import Derived.Maps.OwnIn
import Derived.Maps.Views
import Derived.Sort.MapsRangeIn
import Derived.StringKeys
import Derived.Recover
import Derived.Laws.Panics
import Derived.OpenShut
import Derived.Shelf.Abstract
import Derived.Shelf.RegionOpen
import Derived.WalkSmall
import Derived.RecoverIn
import Derived.Laws.Pointers
import Derived.BigRegionIn
import Derived.WalkMore
import Derived.Lib.AtoiErrMem
import Derived.ProofKit
import Derived.JoinedOf
import Derived.ShutString
import Derived.ChangeOld
import Derived.SizedLaws
section
namespace Go.Proofs.Ytjjbhpbmfpodeaa.X
open Go.RowKit Go.Proofs.YtjjbhpbmfpodeaaW.PrintWords Go.Proofs.YtjjbhpbmfpodeaaW.PrintLast Go.Proofs.YtjjbhpbmfpodeaaW.PrintMore
attribute [local go_sem] max2_int min2_int max_two min_two max_three min_three max_four min_four   -- for this text's walks alone
set_option linter.unusedVariables false
set_option linter.unusedSimpArgs false



def errW : Option Int → Value
  | none => .nilIface
  | some c => .iface 0 (.int .i64 c)
theorem errW_none : errW none = .nilIface := rfl
theorem errW_some (c : Int) : errW (some c) = .iface 0 (.int .i64 c) := rfl

theorem info5 : (Try.prog.info? 5).map (fun i => (i.zero, i.size, i.bytes)) = some (some (.int .u8 0), 1, 1) := by kernel_rfl
theorem info9 : (Try.prog.info? 9).map (fun i => (i.zero, i.size, i.bytes)) = some (some (.string ⟨#[]⟩), 1, 16) := by kernel_rfl
end Go.Proofs.Ytjjbhpbmfpodeaa.X
end
section
namespace Go.Proofs.Ytjjbhpbmfpodeaa.X
open Go.RowKit Go.Proofs.YtjjbhpbmfpodeaaW.PrintWords Go.Proofs.YtjjbhpbmfpodeaaW.PrintLast Go.Proofs.YtjjbhpbmfpodeaaW.PrintMore
attribute [local go_sem] max2_int min2_int max_two min_two max_three min_three max_four min_four   -- for this text's walks alone
set_option linter.unusedVariables false
set_option linter.unusedSimpArgs false

end Go.Proofs.Ytjjbhpbmfpodeaa.X
end
section
namespace Go.Proofs.Ytjjbhpbmfpodeaa.RF
open Go Go.RowKit

/-- The contract of an iterator that may write the cell Bn between two rounds. -/
def SeqCell {α : Type} (F : Fence) (n : Nat) (P : Program) (g : Nat) (lb : Array Value) (encs : α → Array Value) (Kp : World → World → Prop) (S Sp : List α → Prop) (N : Nat) (w : World) (Bn : Nat) : Prop :=
  ∀ (l : Nat) (J Jx : List α → World → Prop) (W : World), Below w.heap.size w W → AbidesFrom W.heap.size J → AbidesFrom W.heap.size Jx →
    (∀ s A u, J s A → J s (A.setCell ⟨Bn, 0, none⟩ u)) →
    (∀ pre x W1, J pre W1 → pre.length < N → YieldAt F (n - 1) P l (encs x) W1 fun e W' =>
      (e = .returned (.bool true) ∧ J (pre ++ [x]) W' ∧ Kp W1 W') ∨ (e = .returned (.bool false) ∧ Jx (pre ++ [x]) W')) →
    J [] W →
    CallsIn F n P g (#[.func (.yield l) #[] #[]] ++ lb) W fun e W' => (∃ v, e = .returned v) ∧ ((∃ xs, S xs ∧ J xs W') ∨ (∃ pre, Sp pre ∧ Jx pre W'))

variable {F : Fence} {n : Nat} {P : Program}

/-- The loop, by such a contract. -/
theorem range_cell {α : Type} {g : Operand} {ps : Array Tmp} {assign body : Code} {Q : Exit → Act → World → Prop} {a : Act} {w : World}
    (hro : F.round = none) (h1 : 1 ≤ n) {gf : Nat} {lb : Array Value} (hg : a.eval g = .func (.func gf) #[] lb) (hFg : F.fn gf) (eg : ∀ args w, (callFunc gf args).run P w = .ok (.enter gf args) w)
    {encs : α → Array Value} {Kp : World → World → Prop} {S Sp : List α → Prop} {N : Nat} {w0 : World} (Bn : Nat) (hBn : Bn < w.heap.size) (hseq : SeqCell F (n - 1) P gf lb encs Kp S Sp N w0 Bn)
    (hKt : ∀ {A B C : World}, Kp A B → Kp B C → Kp A C) (hKb : ∀ (W : World) (l : Nat) (o o' : Obj), w.heap.size ≤ l → W.heap[l]? = some o → o.isCells = false → o.isWalk = false → Kp W (W.putObj l o')) (hb0 : Below w0.heap.size w0 w) (hps : ∀ x, (encs x).size = ps.size)
    (I : List α → World → Prop) (Ix : Code → List α → World → Prop) (hI : OwnFrom w.heap.size I) (hIx : ∀ c, OwnFrom w.heap.size (Ix c)) (h0 : I [] w) (hIc : ∀ s A u, I s A → I s (A.setCell ⟨Bn, 0, none⟩ u)) (a₁ : α → Act)
    (hassign : ∀ (l : Nat) (x : α) (W : World) (K : Act → World → Prop), K (a₁ x) W →
      assign.wpIn (F.inRound l) (n - 1 - 1) P (Exit.then K (fun _ _ _ => False)) { tmps := (ps.zip (encs x)).foldl (fun t (p, v) => t.setIfInBounds p v) a.tmps, defers := [] } W)
    (hbody : ∀ (l : Nat) (pre : List α) (x : α) (W : World), I pre W → pre.length < N → body.wpIn (F.inRound l) (n - 1 - 1) P (ownPostG w.heap.size Kp I Ix (pre ++ [x]) W) (a₁ x) W)
    (hdone : ∀ (D : Nat) (xs : List α) (W : World), w.heap.size ≤ D → S xs → I xs W → W.heap[D]? = some (.deferred (some [])) → Q .normal { a with defers := { target := .collected D, args := #[] } :: a.defers } W)
    (hstop : ∀ (D : Nat) (c : Code) (pre : List α) (W : World), w.heap.size ≤ D → Sp pre → Ix c pre W → W.heap[D]? = some (.deferred (some [])) → c.wpIn F n P Q { a with defers := { target := .collected D, args := #[] } :: a.defers } W) :
    (Code.rangeFunc g ps assign body).wpIn F n P Q a w := by
  refine wpIn_rangeFunc ?_
  intro fn hfn
  rw [hro]
  obtain ⟨rec, hrec⟩ : ∃ rec : LoopState → Option Code → Loop, rec = fun st pe => { state := st, pending := pe, fn, tmps := a.tmps, params := ps, assign, body, defers := w.heap.size } := ⟨_, rfl⟩
  obtain ⟨W1, hW1⟩ : ∃ W1, (w.alloc (.deferred (some []))).alloc (.loop (rec .ready none)) = W1 := ⟨_, rfl⟩
  have hL1 : W1.heap[w.heap.size + 1]? = some (.loop (rec .ready none)) := by
    rw [← hW1]; have := World.alloc_heap_new (w.alloc (.deferred (some []))) (.loop (rec .ready none)); rwa [World.size_alloc] at this
  have hK1 : W1.heap[w.heap.size]? = some (.deferred (some [])) := by
    rw [← hW1]; exact (Below.heap_alloc _ _ _ (by simp)).trans (World.alloc_heap_new w _)
  have hI1 : I [] W1 := by rw [← hW1]; exact hI.alloc _ (hI.alloc _ h0)
  have hb1 : Below w0.heap.size w0 W1 := by
    rw [← hW1]; exact hb0.trans ((((Below.refl _ w).alloc (Nat.le_refl _) _).alloc (by simp) _).mono hb0.size)
  refine ⟨w.heap.size + 1, [{ target := .collected w.heap.size, args := #[] }], W1, { target := .fn (.func gf) lb, args := #[.func (.yield (w.heap.size + 1)) #[] #[]] }, W1, gf,
    #[.func (.yield (w.heap.size + 1)) #[] #[]] ++ lb, W1, ?_, ?_, ?_, ?_, fun _ => h1, ?_⟩
  · rw [← hW1, hrec]; exact run_enterLoop_outer _ _ _ _ _
  · simp only [resolve, hg]
    simp [go_sem]
  · intro f' hf'; simp [Target.leads] at hf'; subst hf'; exact hFg
  · simp [invoke, go_sem, eg]
  · -- THE ITERATOR's CONTRACT, AT THE CALLER's INVARIANT WITH THE TWO FACTS OF BOOK-KEEPING BESIDE IT
    have hnw : ∀ {A B : World} {row : Option Nat}, (∀ r, row = some r → W1.heap.size ≤ r ∧ ∃ o : Obj, A.heap[r]? = some o ∧ o.isWalk = true) → (∀ r, row = some r → w.heap.size ≤ r ∧ ∃ o : Obj, A.heap[r]? = some o ∧ o.isCells = false) :=
      fun hr r e => by obtain ⟨hB, o, ho, hw⟩ := hr r e; exact ⟨by rw [← hW1] at hB; simp at hB; omega, o, ho, Obj.not_cells_of_walk hw⟩
    refine (hseq (w.heap.size + 1)
      (fun pre W => I pre W ∧ W.heap[w.heap.size + 1]? = some (.loop (rec .ready none)) ∧ W.heap[w.heap.size]? = some (.deferred (some [])))
      (fun pre W => ∃ c, Ix c pre W ∧ W.heap[w.heap.size + 1]? = some (.loop (rec .done (some c))) ∧ W.heap[w.heap.size]? = some (.deferred (some [])))
      W1 hb1
      (fun s A B row hs hg' hr => ⟨hI s A B row hs.1 hg' (hnw (B := B) hr), (grownBy_keeps hg' (fun r e => (hr r e).2) hs.2.1 rfl).trans hs.2.1, (grownBy_keeps hg' (fun r e => (hr r e).2) hs.2.2 rfl).trans hs.2.2⟩)
      (fun s A B row hs hg' hr => by
        obtain ⟨c, hc, hl, hk⟩ := hs
        exact ⟨c, hIx c s A B row hc hg' (hnw (B := B) hr), (grownBy_keeps hg' (fun r e => (hr r e).2) hl rfl).trans hl, (grownBy_keeps hg' (fun r e => (hr r e).2) hk rfl).trans hk⟩)
      (fun s A u hs => ⟨hIc s A u hs.1, (Below.heap_setCell A ⟨Bn, 0, none⟩ u _ (by simp; omega)).trans hs.2.1, (Below.heap_setCell A ⟨Bn, 0, none⟩ u _ (by simp; omega)).trans hs.2.2⟩)
      ?_ ⟨hI1, hL1, hK1⟩).mono ?_
    · -- ONE ROUND
      rintro pre x W ⟨hi, hl, hk⟩ hlen
      have hlt : w.heap.size + 1 < W.heap.size := (Array.getElem?_eq_some_iff.1 hl).1
      have hy := run_yield (P := P) (args := encs x) hl (by rw [hrec]; exact hps x)
      rw [hrec] at hy
      refine ⟨fn, _, assign, body, hy, roundIn_of_wpIn hfn (hassign _ x W _ ⟨_, run_beginRound hl (by rw [hrec]), ?_⟩)⟩
      have hl2 : (W.putObj (w.heap.size + 1) (.loop { rec .ready none with state := .busy })).heap[w.heap.size + 1]? = some (.loop { rec .ready none with state := .busy }) := World.putObj_heap_same hlt
      have hk2 : (W.putObj (w.heap.size + 1) (.loop { rec .ready none with state := .busy })).heap[w.heap.size]? = some (.deferred (some [])) := (World.putObj_heap_other (by omega)).trans hk
      have hw2 : Kp W (W.putObj (w.heap.size + 1) (.loop { rec .ready none with state := .busy })) := hKb _ _ _ _ (by omega) hl rfl rfl
      refine wpIn_mono (hbody _ pre x _ (hI.putObj _ hi (by omega) hl rfl) hlen) ?_
      have fin : ∀ (jump : Option Code) (W3 : World), KeepsFrom w.heap.size (W.putObj (w.heap.size + 1) (.loop { rec .ready none with state := .busy })) W3 →
          (Instr.endRound (w.heap.size + 1) jump).run P W3 = .ok (.bool jump.isNone) (W3.putObj (w.heap.size + 1) (.loop (rec (if jump.isNone then .ready else .done) jump))) ∧
          W3.heap[w.heap.size + 1]? = some (.loop { rec .ready none with state := .busy }) ∧
          (W3.putObj (w.heap.size + 1) (.loop (rec (if jump.isNone then .ready else .done) jump))).heap[w.heap.size + 1]? = some (.loop (rec (if jump.isNone then .ready else .done) jump)) ∧
          (W3.putObj (w.heap.size + 1) (.loop (rec (if jump.isNone then .ready else .done) jump))).heap[w.heap.size]? = some (.deferred (some [])) := fun jump W3 hk3 => by
        have hl3 := hk3.same _ _ (by omega) hl2 rfl
        have := run_endRound (P := P) jump hl3
        rw [hrec] at this ⊢
        exact ⟨this, by rw [hrec] at hl3; exact hl3, World.putObj_heap_same (Array.getElem?_eq_some_iff.1 hl3).1, (World.putObj_heap_other (by omega)).trans (hk3.same _ _ (Nat.le_refl _) hk2 rfl)⟩
      rintro e a3 W3 hp
      cases e with
      | normal =>
        obtain ⟨hk3, hkp3, hi3⟩ := hp
        obtain ⟨hr, hl3, hl4, hk4⟩ := fin none W3 hk3
        exact ⟨_, _, hr, .inl ⟨rfl, ⟨hI.putObj _ hi3 (by omega) hl3 rfl, hl4, hk4⟩, hKt (hKt hw2 hkp3) (hKb _ _ _ _ (by omega) hl3 rfl rfl)⟩⟩
      | ret =>
        obtain ⟨hk3, hi3⟩ := hp
        obtain ⟨hr, hl3, hl4, hk4⟩ := fin (some .ret) W3 hk3
        exact ⟨_, _, hr, .inr ⟨rfl, .ret, (hIx _).putObj _ hi3 (by omega) hl3 rfl, hl4, hk4⟩⟩
      | exit id =>
        obtain ⟨hk3, hi3⟩ := hp
        obtain ⟨hr, hl3, hl4, hk4⟩ := fin (some (.exit id)) W3 hk3
        exact ⟨_, _, hr, .inr ⟨rfl, .exit id, (hIx _).putObj _ hi3 (by omega) hl3 rfl, hl4, hk4⟩⟩
      | goto t =>
        obtain ⟨hk3, hi3⟩ := hp
        obtain ⟨hr, hl3, hl4, hk4⟩ := fin (some (.goto t)) W3 hk3
        exact ⟨_, _, hr, .inr ⟨rfl, .goto t, (hIx _).putObj _ hi3 (by omega) hl3 rfl, hl4, hk4⟩⟩
      | panic ch => exact hp.elim
      | outgrown => exact hp.elim
    · -- BEHIND THE ITERATOR
      rintro e W2 ⟨⟨v, rfl⟩, (⟨xs, hS, hi, hl, hk⟩ | ⟨pre, hSp, c, hi, hl, hk⟩)⟩
      · exact ⟨none, _, by have := run_endLoop (P := P) hl (by rw [hrec]; simp); rw [hrec] at this; exact this, hdone _ xs _ (Nat.le_refl _) hS (hI.putObj _ hi (by omega) hl rfl) ((World.putObj_heap_other (by omega)).trans hk)⟩
      · exact ⟨some c, _, by have := run_endLoop (P := P) hl (by rw [hrec]; simp); rw [hrec] at this; exact this, hstop _ c pre _ (Nat.le_refl _) hSp ((hIx c).putObj _ hi (by omega) hl rfl) ((World.putObj_heap_other (by omega)).trans hk)⟩

end Go.Proofs.Ytjjbhpbmfpodeaa.RF
end
section
namespace Go.Proofs.Ytjjbhpbmfpodeaa.X
open Go.RowKit Go.Proofs.YtjjbhpbmfpodeaaW.PrintWords Go.Proofs.YtjjbhpbmfpodeaaW.PrintLast Go.Proofs.YtjjbhpbmfpodeaaW.PrintMore
set_option linter.unusedVariables false
set_option linter.unusedSimpArgs false
attribute [local go_sem] Oper.semAt_some

end Go.Proofs.Ytjjbhpbmfpodeaa.X
end
section
namespace Go.Proofs.Ytjjbhpbmfpodeaa.X
open Go.RowKit Go.Proofs.YtjjbhpbmfpodeaaW.PrintWords Go.Proofs.YtjjbhpbmfpodeaaW.PrintLast Go.Proofs.YtjjbhpbmfpodeaaW.PrintMore
set_option linter.unusedVariables false
set_option linter.unusedSimpArgs false
attribute [local go_sem] Oper.semAt_some

/-- v holds the bytes xs in a row of its own, from block base on, and numbers stand in its spare room too. -/
def Full (w : World) (base : Nat) (v : Value) (xs : List Int) : Prop :=
  (v = .slice none 0 0 ∧ xs = []) ∨
  ∃ (g : Nat) (zs : List Int), v = .slice (some ⟨g, 0, none⟩) xs.length (xs.length + zs.length) ∧ base ≤ g ∧ w.heap[g]? = some (.cells (nums .u8 (xs ++ zs)).toArray 5 (0, 0)) ∧ xs.length + zs.length ≤ 9223372036854775807

theorem Full.below {w w' : World} {base : Nat} {v : Value} {xs : List Int} (h : Full w base v xs) (hb : Below w.heap.size w w') : Full w' base v xs := by
  rcases h with h | ⟨g, zs, rfl, h1, hg, hl⟩
  · exact .inl h
  · exact .inr ⟨g, zs, rfl, h1, blk_below hg hb, hl⟩
theorem Full.grown {w w' : World} {base : Nat} {v : Value} {xs : List Int} (h : Full w base v xs) {row : Option Nat} (hg : w.grownBy w' row) (hne : v.ownBlock = none ∨ v.ownBlock ≠ row) : Full w' base v xs := by
  rcases h with h | ⟨g, zs, rfl, h1, hk, hl⟩
  · exact .inl h
  · refine .inr ⟨g, zs, rfl, h1, blk_grown hk hg ?_, hl⟩
    rcases hne with h | h
    · simp [Value.ownBlock] at h
    · intro e; exact h (by rw [← e]; rfl)
end Go.Proofs.Ytjjbhpbmfpodeaa.X
end
section
namespace Go.Proofs.Ytjjbhpbmfpodeaa.X
open Go.RowKit Go.Proofs.YtjjbhpbmfpodeaaW.PrintWords Go.Proofs.YtjjbhpbmfpodeaaW.PrintLast Go.Proofs.YtjjbhpbmfpodeaaW.PrintMore
set_option linter.unusedVariables false
set_option linter.unusedSimpArgs false

theorem maxLen_eq : maxLen = 9223372036854775807 := by decide

end Go.Proofs.Ytjjbhpbmfpodeaa.X
end
section
namespace Go.Proofs.Ytjjbhpbmfpodeaa.X
open Go.RowKit Go.Lib Go.Proofs.YtjjbhpbmfpodeaaW.PrintWords Go.Proofs.YtjjbhpbmfpodeaaW.PrintLast Go.Proofs.YtjjbhpbmfpodeaaW.PrintMore
set_option linter.unusedVariables false
set_option linter.unusedSimpArgs false

theorem bytesOf_len (s : ByteArray) : (bytesOf s).length = s.size := by
  unfold bytesOf; rw [List.length_map]; rfl

theorem str_ix (s : ByteArray) (i : Int) (h0 : 0 ≤ i) (h1 : i < s.size) (W : World) : (Instr.index 9 (.string s) (.int .i64 i)).run Try.prog W = .ok (.int .u8 (bt s i)) W := by
  have h2 : i.toNat < s.size := by omega
  simp [go_sem, Try.underlying9, bt, h0, h1, h2]
theorem str_from (s : ByteArray) (i : Int) (h0 : 0 ≤ i) (h1 : i ≤ s.size) (W : World) : (Instr.slice 9 (.string s) (some (.int .i64 i)) none none).run Try.prog W = .ok (.string (s.extract i.toNat s.size)) W := by
  simp only [go_sem, Try.underlying9]
  simp
  intro h2; have := h2 h0; omega
theorem str_to (s : ByteArray) (i : Int) (h0 : 0 ≤ i) (h1 : i ≤ s.size) (W : World) : (Instr.slice 9 (.string s) none (some (.int .i64 i)) none).run Try.prog W = .ok (.string (s.extract 0 i.toNat)) W := by
  simp only [go_sem, Try.underlying9]
  simp
  intro h2; have := h2 h0; omega
end Go.Proofs.Ytjjbhpbmfpodeaa.X
end
section
namespace Go.Proofs.Ytjjbhpbmfpodeaa.X
open Go.RowKit Go.Maps Go.WideMaps Go.Proofs.YtjjbhpbmfpodeaaW.PrintWords Go.Proofs.YtjjbhpbmfpodeaaW.PrintLast Go.Proofs.YtjjbhpbmfpodeaaW.PrintMore
set_option linter.unusedVariables false
set_option linter.unusedSimpArgs false

/-- Keys of one kind. -/
structure KeyOf (k : TypeId) (α : Type) where
  toV : α → Value
  lit : α → Lit
  ok : α → Prop
  keyed : Keyed Try.prog k
  inj : ∀ s t, lit s = lit t → s = t
  key : ∀ s, WideAt.IsKeyLit (lit s)
  of : ∀ s, ok s → keyOf Try.prog k (toV s) = some (lit s)
  inv : ∀ v l, keyOf Try.prog k v = some l → ∃ s, ok s ∧ v = toV s ∧ l = lit s

def intK : KeyOf 3 Int where
  toV := .int .i64
  lit := .int .i64
  ok := fun a => (Lit.int .i64 a).wf = true
  keyed := int_keyed Try.underlying3
  inj := fun s t h => by injection h
  key := fun s => trivial
  of := fun s hs => keyOf_int_mk Try.underlying3 hs
  inv := fun v l h => by
    obtain ⟨x, rfl, rfl, hw⟩ := keyOf_int_inv Try.underlying3 h
    exact ⟨x, hw, rfl, rfl⟩

/-- Each element as it stands. -/
def asIs (v : Value) : Option (DataW Value × List MemPlace) := some (.held v, [])

variable {α : Type} {k : TypeId} {K : KeyOf k α}

set_option maxRecDepth 100000
/-- What a map holds. -/
def Holds (K : KeyOf k α) (D : DataW Value) (f : α → Option Value) (sz : Nat) : Prop :=
  Tidy D ∧ (∀ s, has D (K.lit s) = (f s).isSome) ∧ (∀ s v, f s = some v → ∀ z, D.atKey (K.lit s) z = .held v) ∧ Maps.size D = sz
theorem Holds.empty : Holds K (.map []) (fun _ => none) 0 := ⟨tidy_empty, fun s => rfl, fun s k h => by simp at h, rfl⟩
theorem Holds.put [DecidableEq α] {D : DataW Value} {f : α → Option Value} {sz : Nat} (h : Holds K D f sz) (s : α) (v : Value) (ht : Tidy (D.put (K.lit s) (.held v))) :
    Holds K (D.put (K.lit s) (.held v)) (fun t => if t = s then some v else f t) (if (f s).isSome then sz else sz + 1) := by
  obtain ⟨h1, h2, h3, h4⟩ := h
  refine ⟨ht, fun t => ?_, fun t c hc z => ?_, ?_⟩
  · show _ = (if t = s then some v else f t).isSome
    by_cases e : t = s
    · subst e; rw [has_put_same h1.isMap (K.key t)]; simp
    · rw [has_put_other (fun he => e (K.inj _ _ he)), h2, if_neg e]
  · replace hc : (if t = s then some v else f t) = some c := hc
    by_cases e : t = s
    · subst e
      rw [if_pos rfl] at hc
      cases hc
      exact atKey_put_same h1.isMap (K.key t) _ _
    · rw [if_neg e] at hc
      rw [atKey_put_other (fun he => e (K.inj _ _ he))]
      exact h3 t c hc z
  · rw [size_put h1, h2, h4]

def MapV (K : KeyOf k α) (w : World) (b n : Nat) (f : α → Option Value) (sz : Nat) : Prop :=
  ∃ D : DataW Value, w.ownsMap Try.prog k asIs b n D ∧ Holds K D f sz
theorem MapV.made (w : World) : MapV K (w.alloc (.map #[] 0)) w.heap.size 0 (fun _ => none) 0 := ⟨_, World.ownsMap_made w _ _ _, Holds.empty⟩
variable {w w' : World} {b n sz : Nat} {f : α → Option Value}
theorem MapV.mono {n' : Nat} (h : MapV K w b n f sz) (hn : n ≤ n') : MapV K w b n' f sz := by
  obtain ⟨D, h1, h2⟩ := h; exact ⟨D, h1.mono hn, h2⟩
theorem MapV.lt (h : MapV K w b n f sz) : b < w.heap.size := by
  obtain ⟨D, h1, h2⟩ := h; exact h1.lt
theorem MapV.grown (h : MapV K w b n f sz) {row : Option Nat} (hg : w.grownBy w' row) (hne : some b ≠ row) : MapV K w' b n f sz := by
  obtain ⟨D, h1, h2⟩ := h; exact ⟨D, h1.kept hg hne, h2⟩
theorem MapV.alloc (h : MapV K w b n f sz) (o : Obj) : MapV K (w.alloc o) b n f sz := h.grown (World.grownBy_alloc w o none) (by simp)
theorem MapV.below (h : MapV K w b n f sz) (hb : Below w.heap.size w w') : MapV K w' b n f sz := by
  obtain ⟨D, h1, h2⟩ := h
  have hlt := h1.lt
  obtain ⟨es, clock, hbk, F, hs, hD⟩ := h1
  exact ⟨D, ⟨es, clock, blk_below hbk hb, F, hs, hD⟩, h2⟩
theorem MapV.setCell (h : MapV K w b n f sz) {a : Addr} (ha : b ≠ a.block) (u : Value) : MapV K (w.setCell a u) b n f sz := by
  obtain ⟨D, h1, h2⟩ := h; exact ⟨D, h1.setCell ha u, h2⟩
theorem MapV.congr {g : α → Option Value} (h : MapV K w b n f sz) (e : ∀ s, f s = g s) : MapV K w b n g sz := by
  have : f = g := funext e
  exact this ▸ h
theorem MapV.look {t e : TypeId} {z : Value} (h : MapV K w b n f sz) (ht : Try.prog.underlying t = some (.map k e)) (hz : (zeroValue e).run Try.prog w = .ok z w) {s : α} (hs : K.ok s) :
    (Instr.lookup t (.map (some b)) (K.toV s) true).run Try.prog w = .ok (.tuple #[(f s).getD z, .bool (f s).isSome]) w := by
  obtain ⟨D, h1, h2, h3, h4, h5⟩ := h
  obtain ⟨v, ps, hrun, hv⟩ := h1.look_ok K.keyed ht hz (show asIs z = some (.held z, []) from rfl) (K.of s hs)
  rw [hrun, h3]
  have hc := congrArg (fun o => o.map Prod.fst) hv
  simp [asIs] at hc
  cases hf : f s with
  | none =>
    rw [atKey_of_not_has (by rw [h3, hf]; rfl)] at hc
    injection hc with hc
    rw [hc]; rfl
  | some c =>
    rw [h4 s c hf] at hc
    injection hc with hc
    rw [hc]; rfl
theorem MapV.len {t e : TypeId} (h : MapV K w b n f sz) (ht : Try.prog.underlying t = some (.map k e)) (ty : TypeId) : (Builtin.len_ #[t] ty #[.map (some b)]).run Try.prog w = .ok (.int .i64 sz) w := by
  obtain ⟨D, h1, h2⟩ := h
  rw [h1.len ht ty, h2.2.2.2]
theorem MapV.update [DecidableEq α] {t e : TypeId} (h : MapV K w b n f sz) (ht : Try.prog.underlying t = some (.map k e)) {s : α} (v : Value) (hs : K.ok s) (hn : n < maxLen) :
    ∃ w', (Instr.mapUpdate t (.map (some b)) (K.toV s) v).run Try.prog w = .ok () w' ∧ MapV K w' b (n + 1) (fun u => if u = s then some v else f u) (if (f s).isSome then sz else sz + 1) ∧ w.grownBy w' (some b) := by
  obtain ⟨D, h1, h2⟩ := h
  obtain ⟨w', hr, ho, hg⟩ := h1.update K.keyed ht hn (K.of s hs) (show asIs v = some (.held v, []) from rfl)
  exact ⟨w', hr, ⟨_, ho, h2.put s v (ho.tidy K.keyed)⟩, hg⟩

/-- Such a map gone through. -/
def RangeV (K : KeyOf k α) (w : World) (b r n : Nat) (f : α → Option Value) (left : α → Bool) (cnt : Nat) : Prop :=
  ∃ (D : DataW Value) (L : Lit → Bool), w.ranges Try.prog k asIs b r n D L cnt ∧ (∃ sz, Holds K D f sz) ∧ ∀ s, L (K.lit s) = left s
variable {r cnt : Nat} {left : α → Bool}
theorem RangeV.grown (h : RangeV K w b r n f left cnt) {row : Option Nat} (hg : w.grownBy w' row) (hb : some b ≠ row) (hr : some r ≠ row) : RangeV K w' b r n f left cnt := by
  obtain ⟨D, L, h1, h2⟩ := h; exact ⟨D, L, h1.kept hg hb hr, h2⟩
theorem RangeV.lt (h : RangeV K w b r n f left cnt) : r < w.heap.size ∧ b < w.heap.size := by
  obtain ⟨D, L, h1, h2⟩ := h; exact ⟨h1.lt, h1.owns.lt⟩

end Go.Proofs.Ytjjbhpbmfpodeaa.X
end
section
namespace Go.Proofs.Ytjjbhpbmfpodeaa.X
open Go.RowKit Go.Proofs.YtjjbhpbmfpodeaaW.PrintWords Go.Proofs.YtjjbhpbmfpodeaaW.PrintLast Go.Proofs.YtjjbhpbmfpodeaaW.PrintMore
attribute [local go_sem] max2_int min2_int max_two min_two max_three min_three max_four min_four   -- for this text's walks alone
set_option linter.unusedVariables false
set_option linter.unusedSimpArgs false

/-! #### struct type 124 -/
structure S124 where
  f0 : ByteArray
  f1 : Bool
def z124 : S124 := ⟨(⟨#[]⟩ : ByteArray), false⟩
def k124 : Kd S124 := Kd.iso (Kd.pair Kd.string Kd.bool) (fun x : S124 => (x.f0, x.f1))
theorem k124_open {w : World} {x : S124} {cs : List Value} (h : k124.K w x cs) : cs = [.string x.f0, .bool x.f1] := by
  obtain ⟨_, _, rfl, rfl, rfl⟩ := h
  exact rfl
theorem k124_mkM (w : World) (base : Nat) (ok : Nat → Prop) (x : S124)  : k124.M w base ok x [.string x.f0, .bool x.f1] := ⟨[.string x.f0], [.bool x.f1], rfl, rfl, rfl⟩
def rd_T124 (xs : List S124) (i : Int) : S124 := xs.getD i.toNat z124
theorem at_T124 {w : World} {A : Option Addr} {n : Nat} {xs : List S124} (h : Kd.C k124 w A n xs) (i : Int) (h0 : 0 ≤ i) (h1 : i < n) : ∃ ad , A = some ad ∧ w.cell? (ad.add (i.toNat * 2)) = some (.string (rd_T124 xs i).f0) ∧ w.cell? ⟨(ad.add (i.toNat * 2)).block, (ad.add (i.toNat * 2)).off + 1, none⟩ = some (.bool (rd_T124 xs i).f1) := by
  obtain ⟨ad, c, e, _, hK, hc0⟩ := Kd.C_get h z124 i h0 h1
  have hc : ∀ j u, c[j]? = some u → w.cell? (ad.add (i.toNat * 2 + j)) = some u := hc0
  obtain rfl := k124_open hK
  exact ⟨ad, e, hc 0 _ rfl, by rw [← add_field _ _ 1 (by omega)]; exact hc 1 _ rfl⟩

/-! #### struct type 119 -/
structure S119 where
  f0 : Int
  f1 : Bool
  f2 : Bool
def z119 : S119 := ⟨(0 : Int), false, false⟩
def k119 : Kd S119 := Kd.iso (Kd.pair (Kd.int .i64) (Kd.pair Kd.bool Kd.bool)) (fun x : S119 => (x.f0, x.f1, x.f2))
theorem k119_open {w : World} {x : S119} {cs : List Value} (h : k119.K w x cs) : cs = [.int .i64 x.f0, .bool x.f1, .bool x.f2] := by
  obtain ⟨_, _, rfl, rfl, ⟨_, _, rfl, rfl, rfl⟩⟩ := h
  exact rfl
theorem k119_mkM (w : World) (base : Nat) (ok : Nat → Prop) (x : S119)  : k119.M w base ok x [.int .i64 x.f0, .bool x.f1, .bool x.f2] := ⟨[.int .i64 x.f0], [.bool x.f1, .bool x.f2], rfl, rfl, ⟨[.bool x.f1], [.bool x.f2], rfl, rfl, rfl⟩⟩
def rd_T119 (xs : List S119) (i : Int) : S119 := xs.getD i.toNat z119
theorem at_T119 {w : World} {A : Option Addr} {n : Nat} {xs : List S119} (h : Kd.C k119 w A n xs) (i : Int) (h0 : 0 ≤ i) (h1 : i < n) : ∃ ad , A = some ad ∧ w.cell? (ad.add (i.toNat * 3)) = some (.int .i64 (rd_T119 xs i).f0) ∧ w.cell? ⟨(ad.add (i.toNat * 3)).block, (ad.add (i.toNat * 3)).off + 1, none⟩ = some (.bool (rd_T119 xs i).f1) ∧ w.cell? ⟨(ad.add (i.toNat * 3)).block, (ad.add (i.toNat * 3)).off + 2, none⟩ = some (.bool (rd_T119 xs i).f2) := by
  obtain ⟨ad, c, e, _, hK, hc0⟩ := Kd.C_get h z119 i h0 h1
  have hc : ∀ j u, c[j]? = some u → w.cell? (ad.add (i.toNat * 3 + j)) = some u := hc0
  obtain rfl := k119_open hK
  exact ⟨ad, e, hc 0 _ rfl, by rw [← add_field _ _ 1 (by omega)]; exact hc 1 _ rfl, by rw [← add_field _ _ 2 (by omega)]; exact hc 2 _ rfl⟩

end Go.Proofs.Ytjjbhpbmfpodeaa.X
end
section
namespace Go.Proofs.Ytjjbhpbmfpodeaa.X
open Go.RowKit Go.Maps Go.Proofs.YtjjbhpbmfpodeaaW.PrintWords Go.Proofs.YtjjbhpbmfpodeaaW.PrintLast Go.Proofs.YtjjbhpbmfpodeaaW.PrintMore
set_option linter.unusedVariables false
set_option linter.unusedSimpArgs false
attribute [local go_sem] Oper.semAt_some

def flat119 (xs : List S119) : List Value := xs.flatMap (fun x => [.int .i64 x.f0, .bool x.f1, .bool x.f2])
theorem reps119 (w : World) (base : Nat) (ok : Nat → Prop) : ∀ xs : List S119, Reps (k119.M w base ok) 3 xs (flat119 xs)
  | [] => Reps.none _ _
  | x :: xs => Reps.c3 (k119_mkM w base ok x) (reps119 w base ok xs)
theorem flat119_len (xs : List S119) : (flat119 xs).length = xs.length * 3 := by
  induction xs with
  | nil => rfl
  | cons x xs ih => simp only [flat119, List.flatMap_cons, List.length_append, List.length_cons, List.length_nil] at ih ⊢; omega
theorem R119_of_blk {w : World} {base g : Nat} {xs : List S119} (hg : base ≤ g) (hb : w.heap[g]? = some (.cells (flat119 xs).toArray 119 (0, 0))) (hl : xs.length ≤ 100) :
    Kd.R k119 119 w base (fun _ => True) (.slice (some ⟨g, 0, none⟩) xs.length xs.length) xs := by
  refine ⟨fun _ _ => trivial, flat119 xs, ⟨?_, .inr ⟨g, xs.length, _, rfl, hg, hb, Nat.le_refl _, by rw [maxLen_eq]; omega, by simp [flat119_len]; rfl, ?_⟩⟩, reps119 _ _ _ _⟩
  · exact flat119_len xs
  · show List.take (xs.length * 3) (flat119 xs) = _
    rw [← flat119_len, List.take_length]

/-- The parts of a type's data, if they are not any bytes. -/
def partsL (t : Int) : Option (List S119) :=
  if t = 16 then some [⟨0, false, true⟩] else if t = 6 then some [⟨0, true, false⟩, ⟨0, true, false⟩, ⟨20, false, false⟩] else if t = 15 then some [⟨2, false, false⟩, ⟨0, true, false⟩]
  else if t = 12 then some [⟨0, true, false⟩] else if t = 5 then some [⟨0, true, false⟩] else if t = 2 then some [⟨0, true, false⟩] else if t = 28 then some [⟨16, false, false⟩] else if t = 1 then some [⟨4, false, false⟩] else none
/-- The table, so far as it is filled. -/
structure Tb (w : World) (bm n : Nat) (tab : Int → Option (List S119)) (W : World) : Prop where
  below : Below w.heap.size w W
  lo : bm = w.heap.size + 1
  first : W.heap[w.heap.size]? = some (.cells #[.int .i64 0, .bool true, .bool false] 119 (0, 0))
  map : ∃ f sz, MapV intK W bm n f sz ∧ ∀ t, match tab t with
    | none => f t = none
    | some xs => ∃ g, f t = some (.slice (some ⟨g, 0, none⟩) xs.length xs.length) ∧ w.heap.size ≤ g ∧ g ≠ bm ∧ W.heap[g]? = some (.cells (flat119 xs).toArray 119 (0, 0))

theorem Tb.ins {w W : World} {bm n : Nat} {tab : Int → Option (List S119)} (h : Tb w bm n tab W) (hn : n ≤ 100) (s : Int) (hs : (Lit.int .i64 s).wf = true) (xs : List S119) :
    ∃ w', (Instr.mapUpdate 146 (.map (some bm)) (.int .i64 s) (.slice (some ⟨W.heap.size, 0, none⟩) xs.length xs.length)).run Try.prog (W.alloc (.cells (flat119 xs).toArray 119)) = .ok () w' ∧ Tb w bm (n + 1) (fun u => if u = s then some xs else tab u) w' := by
  obtain ⟨f, sz, hm, hf⟩ := h.map
  obtain ⟨w', hr, hm', hg⟩ := (hm.alloc (Obj.cells (flat119 xs).toArray 119)).update Try.underlying146 (s := s) (.slice (some ⟨W.heap.size, 0, none⟩) xs.length xs.length) hs (by rw [maxLen_eq]; omega)
  have hbm := hm.lt
  refine ⟨w', hr, (below_alloc h.below _).grown hg (by have := h.below.size; simp; omega) (fun j e => by injection e with e; have := h.lo; omega), h.lo, blk_grown (blk_alloc h.first _) hg (fun e => by injection e with e; have := h.lo; omega), _, _, hm', fun t => ?_⟩
  by_cases e : t = s
  · subst e
    simp only [if_pos rfl]
    exact ⟨W.heap.size, rfl, h.below.size, by omega, blk_grown (blk_new W _) hg (fun e => by injection e with e; omega)⟩
  · simp only [if_neg e]
    have := hf t
    cases ht : tab t with
    | none => rw [ht] at this; exact this
    | some ys =>
      rw [ht] at this
      obtain ⟨g, h1, h2, h3, h4⟩ := this
      exact ⟨g, h1, h2, h3, blk_grown (blk_alloc h4 _) hg (fun e => h3 (by injection e))⟩

theorem wpListIn_insert_T {F : Fence} {nF : Nat} {ops : Array Oper} {rest : List Oper} {o : Oper} {a : Act} {Q : Exit → Act → World → Prop} {w W : World} {bm n : Nat} {tab : Int → Option (List S119)}
    (hg : o.guard = none) (m x v : Operand) (hop : o.op = Op.insert 146 m x v) (h : Tb w bm n tab W) (hn : n ≤ 100) (s : Int) (hs : (Lit.int .i64 s).wf = true) (xs : List S119) (k : Nat) (cs : Array Value) (g : Nat)
    (hm : a.eval m = .map (some bm)) (hx : a.eval x = .int .i64 s) (hv : a.eval v = .slice (some ⟨g, 0, none⟩) k k) (hgg : g = W.heap.size) (hk : k = xs.length) (hcs : cs = (flat119 xs).toArray)
    (hK : ∀ w', Tb w bm (n + 1) (fun u => if u = s then some xs else tab u) w' → wpListIn F nF Try.prog ops Q rest (a.put o.dst undef) w') :
    wpListIn F nF Try.prog ops Q (o :: rest) a (W.alloc (.cells cs 119)) := by
  subst hgg hk hcs
  refine wpListIn_plain hg fun K' hK' => ?_
  obtain ⟨w', hrun, r1⟩ := h.ins hn s hs xs
  unfold Oper.wpIn
  refine ⟨by simp [Oper.about, hop], ?_⟩
  rw [Oper.semAt_plain F _ _ (by rw [hop]; intro c hc'; cases hc')]
  simp [execOp, hop, hm, hx, hv, hrun, Result.andThen]
  exact hK' _ _ (hK w' r1)
theorem zero115 (w : World) : (zeroValue 115).run Try.prog w = .ok (.slice none 0 0) w := by
  have h : (Try.prog.info? 115).map (fun i => (i.zero, i.size, i.bytes)) = some (some (.slice none 0 0), 1, 24) := by kernel_rfl
  obtain ⟨i, hi, hz, _⟩ := info_parts h
  simp [zeroValue, typeInfo, hi, hz, go_sem]
theorem Tb.start (w : World) : Tb w (w.heap.size + 1) 0 (fun _ => none) ((w.alloc (Obj.cells #[.int .i64 0, .bool true, .bool false] 119)).alloc (Obj.map #[] 0)) := by
  have hm := MapV.made (K := intK) (w.alloc (Obj.cells #[.int .i64 0, .bool true, .bool false] 119))
  rw [World.size_alloc] at hm
  exact ⟨below_alloc (below_alloc (Below.refl _ _) _) _, rfl, blk_alloc (blk_new w _) _, _, _, hm, fun t => rfl⟩
theorem Tb.first_ {w W : World} {bm n : Nat} {tab : Int → Option (List S119)} (h : Tb w bm n tab W) : W.cell? ⟨w.heap.size, 0, none⟩ = some (.int .i64 0) ∧ W.cell? ⟨w.heap.size, 1, none⟩ = some (.bool true) ∧ W.cell? ⟨w.heap.size, 2, none⟩ = some (.bool false) :=
  ⟨(blk_cell h.first 0).trans rfl, (blk_cell h.first 1).trans rfl, (blk_cell h.first 2).trans rfl⟩

set_option maxHeartbeats 8000000 in
set_option maxRecDepth 100000 in
theorem rdata_parts.in_ (n : Nat) (hn : 1 ≤ n) (t : Int) (ht : (Lit.int .i64 t).wf = true) (w : World) :
    CallsIn Fence.wide n Try.prog 96 #[.int .i64 t] w fun e w' => ∃ v, e = .returned (.tuple #[v, .bool (partsL t).isSome]) ∧ Kd.R k119 119 w' w.heap.size (fun _ => True) v ((partsL t).getD []) ∧ Below w.heap.size w w' := by
  have HWF := Aside0.mk ht
  have HT0 := Aside0.mk (Tb.start w)
  have hmm := @run_makeMap Try.prog
  clear ht
  refine callsIn_of_wp Try.func96 rfl trivial ?_ rfl
  simp only [Try.ntmps96, List.size_toArray, List.length_cons, List.length_nil, Nat.reduceAdd, Nat.reduceSub, Array.replicate_succ, Array.replicate_zero, List.push_toArray, List.append_toArray, List.nil_append, List.cons_append]
  gi_wp2_with (first
    | (refine wpListIn_insert_T rfl _ _ _ rfl HT0.out (by omega) 1 (by decide) [⟨4, false, false⟩] 1 _ _ rfl rfl rfl ?_ rfl rfl ?_; (first | rfl | simp); intro w1 hp; have HT1 := Aside0.mk hp; obtain ⟨k0, k1, k2⟩ := hp.first_; clear hp)
    | (refine wpListIn_insert_T rfl _ _ _ rfl HT1.out (by omega) 28 (by decide) [⟨16, false, false⟩] 1 _ _ rfl rfl rfl ?_ rfl rfl ?_; (first | rfl | simp); intro w2 hp; have HT2 := Aside0.mk hp; obtain ⟨k0, k1, k2⟩ := hp.first_; clear hp)
    | (refine wpListIn_insert_T rfl _ _ _ rfl HT2.out (by omega) 2 (by decide) [⟨0, true, false⟩] 1 _ _ rfl rfl rfl ?_ rfl rfl ?_; (first | rfl | simp); intro w3 hp; have HT3 := Aside0.mk hp; obtain ⟨k0, k1, k2⟩ := hp.first_; clear hp)
    | (refine wpListIn_insert_T rfl _ _ _ rfl HT3.out (by omega) 5 (by decide) [⟨0, true, false⟩] 1 _ _ rfl rfl rfl ?_ rfl rfl ?_; (first | rfl | simp); intro w4 hp; have HT4 := Aside0.mk hp; obtain ⟨k0, k1, k2⟩ := hp.first_; clear hp)
    | (refine wpListIn_insert_T rfl _ _ _ rfl HT4.out (by omega) 12 (by decide) [⟨0, true, false⟩] 1 _ _ rfl rfl rfl ?_ rfl rfl ?_; (first | rfl | simp); intro w5 hp; have HT5 := Aside0.mk hp; obtain ⟨k0, k1, k2⟩ := hp.first_; clear hp)
    | (refine wpListIn_insert_T rfl _ _ _ rfl HT5.out (by omega) 15 (by decide) [⟨2, false, false⟩, ⟨0, true, false⟩] 2 _ _ rfl rfl rfl ?_ rfl rfl ?_; (first | rfl | simp); intro w6 hp; have HT6 := Aside0.mk hp; obtain ⟨k0, k1, k2⟩ := hp.first_; clear hp)
    | (refine wpListIn_insert_T rfl _ _ _ rfl HT6.out (by omega) 6 (by decide) [⟨0, true, false⟩, ⟨0, true, false⟩, ⟨20, false, false⟩] 3 _ _ rfl rfl rfl ?_ rfl rfl ?_; (first | rfl | simp); intro w7 hp; have HT7 := Aside0.mk hp; obtain ⟨k0, k1, k2⟩ := hp.first_; clear hp)
    | (refine wpListIn_insert_T rfl _ _ _ rfl HT7.out (by omega) 16 (by decide) [⟨0, false, true⟩] 1 _ _ rfl rfl rfl ?_ rfl rfl ?_; (first | rfl | simp); intro w8 hp; have HT8 := Aside0.mk hp; obtain ⟨k0, k1, k2⟩ := hp.first_; clear hp; obtain ⟨f, sz, hmv, hft⟩ := HT8.out.map; have HFT := Aside0.mk hft; have hlk : (Instr.lookup 146 (.map (some (w.heap.size + 1))) (.int .i64 t) true).run Try.prog w8 = .ok (.tuple #[(f t).getD (.slice none 0 0), .bool (f t).isSome]) w8 := hmv.look Try.underlying146 (zero115 _) (s := t) HWF.out; clear hmv hft))
  go_ret2
  have h : (match partsL t with
    | none => f t = none
    | some xs => ∃ g, f t = some (.slice (some ⟨g, 0, none⟩) xs.length xs.length) ∧ w.heap.size ≤ g ∧ g ≠ w.heap.size + 1 ∧ w8.heap[g]? = some (.cells (flat119 xs).toArray 119 (0, 0))) := HFT.out t
  have hlen : ∀ xs, partsL t = some xs → xs.length ≤ 100 := fun xs h => by
    unfold partsL at h
    repeat' (split at h; · injection h with h; subst h; simp)
    cases h
  cases hp : partsL t with
  | none =>
    rw [hp] at h
    replace h : f t = none := h
    rw [h]
    exact ⟨_, rfl, Kd.R_nil _ _ _ _ _, HT8.out.below⟩
  | some xs =>
    rw [hp] at h
    obtain ⟨g, h1, h2, h3, h4⟩ := h
    rw [h1]
    exact ⟨_, rfl, R119_of_blk h2 h4 (hlen xs hp), HT8.out.below⟩

end Go.Proofs.Ytjjbhpbmfpodeaa.X
end
section
namespace Go.Proofs.Ytjjbhpbmfpodeaa.X
open Go.RowKit Go.Proofs.YtjjbhpbmfpodeaaW.PrintWords Go.Proofs.YtjjbhpbmfpodeaaW.PrintLast Go.Proofs.YtjjbhpbmfpodeaaW.PrintMore
attribute [local go_sem] max2_int min2_int max_two min_two max_three min_three max_four min_four   -- for this text's walks alone
set_option linter.unusedVariables false
set_option linter.unusedSimpArgs false

end Go.Proofs.Ytjjbhpbmfpodeaa.X
end
section
namespace Go.Proofs.Ytjjbhpbmfpodeaa.X
open Go.RowKit Go.Proofs.YtjjbhpbmfpodeaaW.PrintWords Go.Proofs.YtjjbhpbmfpodeaaW.PrintLast Go.Proofs.YtjjbhpbmfpodeaaW.PrintMore
set_option linter.unusedVariables false
set_option linter.unusedSimpArgs false
theorem rtb : Try.prog.rt.boundsError = 8 := by kernel_rfl
theorem run_boundsPanicN {α : Type} {P : Program} {w : World} (k : IntKind) (x y : Int) (code : BoundsCode) :
    ∃ s n, (boundsPanic k x y code : Sem α).run P w = .halt (.panic (boundsValue P (IntKind.i64.wrap x) y s code.toNat)) (w.drewN n) := by
  unfold boundsPanic boundsValue
  split
  · simp [runtimePanic, goPanic, go_sem]
    exact ⟨1, rfl⟩
  · simp [runtimePanic, goPanic, go_sem]
    exact ⟨0, rfl⟩
theorem ta_bounds (v : Value) (w : World) : (Instr.typeAssert (.iface 8 v) 20 152 true).run Try.prog w = .ok (.tuple #[.iface 8 v, .bool true]) w := by kernel_rfl
theorem ta_nil (w : World) : (Instr.typeAssert .nilIface 20 152 true).run Try.prog w = .ok (.tuple #[.nilIface, .bool false]) w := by kernel_rfl

theorem at1_panicking (p : Addr) (x : Int) (pv : Value) (older : List PanicEntry) (w : World) (hc : w.cell? p = some (.int .i64 x)) (hz : w.frozen? p = false) :
    CallsD Try.prog 121 #[.pointer (some p)] (.panicking ({ v := .iface 8 pv, recovered := false } :: older)) w fun e u' w' =>
      e = .returned (.tuple #[]) ∧ u' = .panicking ({ v := .iface 8 pv, recovered := true } :: older) ∧ w' = w.setCell p (.int .i64 4) := by
  refine callsD_of_wpS Try.func121 rfl fun c₀ cs hu => ?_
  have hta := ta_bounds pv
  apply wpS_seq
  apply wpS_region
  simp [wpOpsS, go_sem, recoverD, hu, Try.ntmps121, Exit.thenS]
  refine wpS_of_wp ?_
  simp only [Array.replicate_succ, Array.replicate_zero, List.push_toArray, List.append_toArray, List.nil_append, List.cons_append, List.setIfInBounds_toArray, List.set_cons_zero, List.set_cons_succ]
  go_wp2
  simp [bodyPostS, results, Try.results121]

theorem at1_idle (p : Addr) (w : World) :
    CallsD Try.prog 121 #[.pointer (some p)] .returning w fun e u' w' => e = .returned (.tuple #[]) ∧ u' = .returning ∧ w' = w := by
  refine callsD_of_wpS Try.func121 rfl fun c₀ cs hu => ?_
  have hta := ta_nil
  apply wpS_seq
  apply wpS_region
  simp [wpOpsS, go_sem, recoverD, hu, Try.ntmps121, Exit.thenS]
  refine wpS_of_wp ?_
  simp only [Array.replicate_succ, Array.replicate_zero, List.push_toArray, List.append_toArray, List.nil_append, List.cons_append, List.setIfInBounds_toArray, List.set_cons_zero, List.set_cons_succ]
  go_wp2
  cases c₀
  simp_all [bodyPostS, results, Try.results121]

set_option maxRecDepth 100000 in
theorem at_in (A0 : Option Addr) (c0 : Nat) (l0 : List Int) (i : Int) (w : World) (hr0 : Kd.C (Kd.int .u8) w A0 l0.length l0) (h0 : 0 ≤ i) (h1 : i < l0.length) :
    Calls Try.prog 112 #[.slice A0 l0.length c0, .int .i64 i] w fun e w' => e = .returned (.tuple #[.int .u8 (rd l0 i), .int .i64 0]) ∧ Below w.heap.size w w' := by
  obtain ⟨ad, rfl, hcell⟩ := Kd.at_int hr0 i h0 h1
  have hcell2 := pw_cell_below (below_alloc (Below.refl _ _) (.cells #[.int .i64 0] 23)) hcell
  clear hr0
  have hmf : ∀ (fn : Fn) (first cap : Array Value) (w : World), (Instr.makeFunc fn first cap).run Try.prog w = .ok (.func fn first cap) w := fun _ _ _ _ => rfl
  go_enter_defers Try.func112, Try.ntmps112
  go_wp2
  refine leaves_cons (f := 121) (args := #[.pointer (some ⟨w.heap.size, 0, none⟩)]) (by simp) (by simp [go_sem]) ?_
  refine (at1_idle ⟨w.heap.size, 0, none⟩ _).mono ?_
  rintro e u' w'' ⟨rfl, rfl, rfl⟩
  simp [Leaves, settle, results, Try.results112, go_sem]
  exact below_alloc (Below.refl _ _) _

set_option maxRecDepth 100000 in
theorem at_out (A0 : Option Addr) (c0 : Nat) (l0 : List Int) (i : Int) (w : World) (hr0 : Kd.C (Kd.int .u8) w A0 l0.length l0) (h1 : i < 0 ∨ (l0.length : Int) ≤ i) :
    Calls Try.prog 112 #[.slice A0 l0.length c0, .int .i64 i] w fun e w' => e = .returned (.tuple #[.int .u8 0, .int .i64 4]) ∧ Below w.heap.size w w' := by
  have hmf : ∀ (fn : Fn) (first cap : Array Value) (w : World), (Instr.makeFunc fn first cap).run Try.prog w = .ok (.func fn first cap) w := fun _ _ _ _ => rfl
  have hidx : ∃ s n, (Instr.indexAt 22 (.slice A0 l0.length c0) (.int .i64 i)).run Try.prog (w.alloc (.cells #[.int .i64 0] 23)) = .halt (.panic (boundsValue Try.prog (IntKind.i64.wrap i) l0.length s 0)) ((w.alloc (.cells #[.int .i64 0] 23)).drewN n) := by
    cases A0 with
    | some a =>
      rw [run_indexAt_slice (h := Try.underlying22), if_neg (by omega)]
      exact run_boundsPanicN .i64 i l0.length .index
    | none =>
      have hl : l0.length = 0 := by
        rcases Nat.eq_zero_or_pos l0.length with h | h
        · exact h
        · obtain ⟨ad, e, _⟩ := hr0.2.2 h
          cases e
      rw [hl]
      have e : (Instr.indexAt 22 (.slice none 0 c0) (.int .i64 i)).run Try.prog (w.alloc (.cells #[.int .i64 0] 23)) = (boundsPanic .i64 i 0 .index).run Try.prog (w.alloc (.cells #[.int .i64 0] 23)) := by
        simp [Instr.indexAt, run_underlying Try.underlying22, asIntOf]
      rw [e]
      exact run_boundsPanicN .i64 i 0 .index
  obtain ⟨s, n, hrun⟩ := hidx
  unfold boundsValue at hrun
  rw [rtb] at hrun
  clear hr0 h1
  go_enter_defers Try.func112, Try.ntmps112
  go_wp2
  refine leaves_cons (f := 121) (args := #[.pointer (some ⟨w.heap.size, 0, none⟩)]) (by simp) (by simp [go_sem]) ?_
  refine (at1_panicking ⟨w.heap.size, 0, none⟩ 0 _ [] _ ?_ ?_).mono ?_
  · simp [go_sem]
  · simp [go_sem]
  rintro e u' w'' ⟨rfl, rfl, rfl⟩
  simp [Leaves, settle, results, Try.results112, go_sem]
  exact below_set (pw_below_drewN (below_alloc (Below.refl _ _) _) _) (Nat.le_refl _)

/-- The number that bytes tell, the highest first. -/
def beVal (l : List Int) : Int := l.foldl (fun n c => 256 * n + c) 0
theorem beVal_snoc (l : List Int) (c : Int) : beVal (l ++ [c]) = 256 * beVal l + c := by simp [beVal]
def bytesB (l : List Int) : Bool := l.all fun x => decide (0 ≤ x ∧ x ≤ 255)
theorem bytesB_at {l : List Int} (h : bytesB l = true) (i : Nat) : 0 ≤ l.getD i 0 ∧ l.getD i 0 ≤ 255 := by
  rw [List.getD_eq_getElem?_getD]
  rcases Nat.lt_or_ge i l.length with hi | hi
  · rw [List.getElem?_eq_getElem hi]
    simpa [bytesB] using (List.all_eq_true.1 h) l[i] (List.getElem_mem hi)
  · rw [List.getElem?_eq_none hi]
    simp
/-- octet.get at two or four bytes. -/
def octet_get.f (l0 : List Int) (a1 : Int) (a2 : Int) : Option (Int × Int × Int × Int) :=
  if bytesB l0 = true ∧ (a2 = 2 ∨ a2 = 4) ∧ l0.length ≤ 140737488355328 then
    if a1 < 0 ∨ (l0.length : Int) < a1 then some (0, 0, 5, 0)
    else if (l0.length : Int) < a1 + a2 then some (0, 0, 4, l0.length)
    else some (beVal ((l0.drop a1.toNat).take a2.toNat), a1 + a2, 0, 0)
  else none
theorem beVal_bound {l : List Int} (h : bytesB l = true) : 0 ≤ beVal l ∧ beVal l < 256 ^ l.length := by
  suffices H : ∀ n : Nat, ∀ l : List Int, l.length = n → bytesB l = true → 0 ≤ beVal l ∧ beVal l < 256 ^ n by exact H _ l rfl h
  intro n
  induction n with
  | zero => intro l hl _; obtain rfl := List.eq_nil_of_length_eq_zero hl; simp [beVal]
  | succ n ih =>
    intro l hl h
    have hne : l ≠ [] := by intro e; subst e; simp at hl
    obtain ⟨l', c, rfl⟩ : ∃ l' c, l = l' ++ [c] := ⟨l.dropLast, l.getLast hne, (List.dropLast_concat_getLast hne).symm⟩
    have h' : bytesB l' = true ∧ 0 ≤ c ∧ c ≤ 255 := by simpa [bytesB] using h
    obtain ⟨i1, i2⟩ := ih l' (by simpa using hl) h'.1
    rw [beVal_snoc, Int.pow_succ]
    omega

set_option maxHeartbeats 8000000 in
set_option maxRecDepth 100000 in
theorem octet_get.calls (A0 : Option Addr) (c0 : Nat) (l0 : List Int) (a1 : Int) (a2 : Int) (r1 : Int) (r2 : Int) (r3 : Int) (r4 : Int) (w : World) (hr0 : Kd.C (Kd.int .u8) w A0 l0.length l0) (hc0 : l0.length ≤ c0) (h : octet_get.f l0 a1 a2 = some (r1, r2, r3, r4)) :
    Calls Try.prog 91 #[.slice A0 l0.length c0, .int .i64 a1, .int .i64 a2] w fun e w' => e = .returned (.tuple #[.int .i64 r1, .int .i64 r2, .agg #[.int .i64 r3, .int .i64 r4]]) ∧ Below w.heap.size w w' := by
  unfold octet_get.f at h
  by_cases c1 : bytesB l0 = true ∧ (a2 = 2 ∨ a2 = 4) ∧ l0.length ≤ 140737488355328
  case neg => rw [if_neg c1] at h; cases h
  rw [if_pos c1] at h
  obtain ⟨hby, h24, hlen⟩ := c1
  have HBY := Aside0.mk hby
  have HR0 := Aside0.mk hr0
  have HC0 := Aside0.mk hc0
  clear hby hr0 hc0
  by_cases c2 : a1 < 0 ∨ (l0.length : Int) < a1
  · rw [if_pos c2] at h
    simp only [Option.some.injEq, Prod.mk.injEq] at h
    obtain ⟨rfl, rfl, rfl, rfl⟩ := h
    by_cases c3 : a1 < 0
    · have b0 : decide (a1 < 0) = true := decide_eq_true c3
      clear c2 c3
      go_enter Try.func91, Try.ntmps91
      go_wp2
      refine bodyPost_ret (v := .tuple #[.int .i64 0, .int .i64 0, .agg #[.int .i64 5, .int .i64 0]]) (by simp [results, Try.results91, go_sem]) rfl ⟨rfl, ?_⟩
      exact below_alloc (Below.refl _ _) _
    · have b0 : decide (a1 < 0) = false := decide_eq_false c3
      have b1 : (l0.length : Int) < a1 := by omega
      clear c2 c3
      go_enter Try.func91, Try.ntmps91
      go_wp2
      refine bodyPost_ret (v := .tuple #[.int .i64 0, .int .i64 0, .agg #[.int .i64 5, .int .i64 0]]) (by simp [results, Try.results91, go_sem]) rfl ⟨rfl, ?_⟩
      exact below_alloc (Below.refl _ _) _
  · rw [if_neg c2] at h
    have b0 : decide (a1 < 0) = false := decide_eq_false (by omega)
    have b1 : a1 ≤ (l0.length : Int) := by omega
    have b2 : 0 ≤ a1 := by omega
    obtain ⟨n, rfl⟩ := Int.eq_ofNat_of_zero_le b2
    clear c2
    have h24' : 2 ≤ a2 ∧ a2 ≤ 4 := by omega
    obtain ⟨m, rfl⟩ := Int.eq_ofNat_of_zero_le (show 0 ≤ a2 by omega)
    have b3 : decide ((l0.length : Int) < (n : Int)) = false := decide_eq_false (by omega)
    have b4 : decide (l0.length < n) = false := decide_eq_false (by omega)
    have HH := Aside0.mk h
    have H24 := Aside0.mk h24
    clear h h24
    go_enter Try.func91, Try.ntmps91
    go_wp2
    go_loopg [9, 10, 11, 12, 23] m (fun kq v9 v10 v11 v12 v23 w' => ∃ i : Nat, v23 = .int .i64 i ∧ i ≤ m ∧ n + i ≤ l0.length ∧ Aside0 (i + kq = m) ∧ Aside0 (v9 = .int .i64 (beVal ((l0.drop n).take i))) ∧ Aside0 (w'.heap[w.heap.size]? = some (.cells #[.int .i64 0, .int .i64 0] 31 (0, 0))) ∧ Aside0 (Below w.heap.size w w'))
    case atStart => exact ⟨0, rfl, by omega, by omega, ⟨by omega⟩, ⟨rfl⟩, ⟨heap_alloc_new w _⟩, ⟨below_alloc (Below.refl _ _) _⟩⟩
    case round =>
      obtain ⟨i, rfl, hi, hin, HI, HV, HBLK, HB⟩ := hrel
      have hcz0 : wr.cell? ⟨w.heap.size, 0, none⟩ = some (.int .i64 0) := (blk_cell HBLK.out 0).trans rfl
      have hcz1 : wr.cell? ⟨w.heap.size, 1, none⟩ = some (.int .i64 0) := (blk_cell HBLK.out 1).trans rfl
      have hfz0 := blk_frozen HBLK.out 0
      have hfz1 := blk_frozen HBLK.out 1
      have HBLT := Aside0.mk (blk_lt HBLK.out)
      by_cases c4 : i < m
      · have htl : ((l0.drop n).take i).length = i := by simp; omega
        have hbv := beVal_bound (l := (l0.drop n).take i) (by
          have := HBY.out
          simp only [bytesB, List.all_eq_true] at this ⊢
          intro x hx
          exact this x (List.mem_of_mem_drop (List.mem_of_mem_take hx)))
        rw [htl] at hbv
        have hbv2 : (256 : Int) ^ i ≤ 256 ^ 3 := by
          have : i ≤ 3 := by omega
          exact_mod_cast Nat.pow_le_pow_right (by omega) this
        obtain ⟨bv, hbvd⟩ : ∃ bv, bv = beVal ((l0.drop n).take i) := ⟨_, rfl⟩
        rw [← hbvd] at hbv HV
        have hv1 : 0 ≤ bv := hbv.1
        have hv2 : bv ≤ 16777215 := by have := hbv.2; omega
        have HBVD := Aside0.mk hbvd
        clear hbv hbv2 hbvd htl
        obtain rfl := HV.out
        clear HV
        by_cases c5 : n + i < l0.length
        · have hrd : 0 ≤ rd l0 ((n : Int) + (i : Int)) ∧ rd l0 ((n : Int) + (i : Int)) ≤ 255 := bytesB_at HBY.out _
          obtain ⟨hr1, hr2⟩ := hrd
          have hval : bits BinOp.or IntKind.i64 (bv * 256) (rd l0 ((n : Int) + (i : Int))) = beVal ((l0.drop n).take (i + 1)) := by
            rw [bits_join .i64 63 (by decide) (fun n h1 h2 => by rw [IntKind.wrap_i64]; omega) 8 (bv * 256) _ (by omega) (by omega) (by omega) hr1 (by omega) (by omega)]
            rw [List.take_succ_eq_append_getElem (by simp; omega), beVal_snoc, ← HBVD.out]
            have : rd l0 ((n : Int) + (i : Int)) = (l0.drop n)[i]'(by simp; omega) := by
              unfold rd
              rw [show ((n : Int) + (i : Int)).toNat = n + i by omega, List.getD_eq_getElem?_getD, List.getElem?_eq_getElem c5, List.getElem_drop]
              rfl
            rw [this]; omega
          have HVAL := Aside0.mk hval
          clear hval
          go_wp2_with (go_at_call 112; refine (at_in _ _ l0 _ _ (Kd.C_below HR0.out HB.out) (by omega) (by omega)).mono ?_; rintro e w2 ⟨rfl, hb⟩)
          go_roundg (gk - 1)
          case measure => have := HI.out; omega
          case rel => exact ⟨i + 1, by go_num, by omega, by omega, ⟨by have := HI.out; omega⟩, ⟨by rw [HVAL.out]⟩, ⟨blk_below HBLK.out hb⟩, ⟨below_step HB.out hb⟩⟩
        · have hh := HH.out
          rw [if_pos (by omega)] at hh
          simp only [Option.some.injEq, Prod.mk.injEq] at hh
          obtain ⟨rfl, rfl, rfl, rfl⟩ := hh
          go_wp2_with (go_at_call 112; refine (at_out _ _ l0 _ _ (Kd.C_below HR0.out HB.out) (by omega)).mono ?_; rintro e w2 ⟨rfl, hb⟩; have hc0' := (hb.cell (p := ⟨w.heap.size, 0, none⟩) HBLT.out).trans hcz0; have hc1' := (hb.cell (p := ⟨w.heap.size, 1, none⟩) HBLT.out).trans hcz1; have hf0' := (hb.frozen (p := ⟨w.heap.size, 0, none⟩) HBLT.out).trans hfz0; have hf1' := (hb.frozen (p := ⟨w.heap.size, 1, none⟩) HBLT.out).trans hfz1)
          have BK := Aside0.mk (blk_below HBLK.out hb)
          have HB2 := Aside0.mk (below_step HB.out hb)
          refine bodyPost_ret (results_list (rs := [.tmp 6, .tmp 7, .cell 8 31]) rfl (by simp) (.tmp (.tmp (.cell w.heap.size 31 #[.int .i64 4, .int .i64 l0.length] (0, 0) _ rfl (by refine blk_put (cs := #[.int .i64 4, .int .i64 0]) ?_ 1 _ rfl; refine blk_put (cs := #[.int .i64 0, .int .i64 0]) ?_ 0 _ rfl; exact BK.out) Try.underlying31 rfl (by kernel_rfl) .nil)))) rfl ?_
          exact ⟨rfl, below_set (below_set HB2.out (Nat.le_refl _)) (Nat.le_refl _)⟩
      · have hh := HH.out
        obtain rfl : i = m := by omega
        rw [if_neg (by omega)] at hh
        simp only [Option.some.injEq, Prod.mk.injEq] at hh
        obtain ⟨e1, rfl, rfl, rfl⟩ := hh
        obtain rfl := HV.out
        rw [show (↑i : Int).toNat = i from rfl, show (↑n : Int).toNat = n from rfl] at e1
        rw [e1]
        clear e1 HV HH
        go_wp2
        refine bodyPost_ret (results_list (rs := [.tmp 6, .tmp 7, .cell 8 31]) rfl (by simp) (.tmp (.tmp (.cell w.heap.size 31 #[.int .i64 0, .int .i64 0] (0, 0) _ rfl (by refine blk_put (cs := #[.int .i64 0, .int .i64 0]) ?_ 1 _ rfl; refine blk_put (cs := #[.int .i64 0, .int .i64 0]) ?_ 0 _ rfl; exact HBLK.out) Try.underlying31 rfl (by kernel_rfl) .nil)))) rfl ?_
        exact ⟨rfl, below_set (below_set HB.out (Nat.le_refl _)) (Nat.le_refl _)⟩
end Go.Proofs.Ytjjbhpbmfpodeaa.X
end
section
namespace Go.Proofs.Ytjjbhpbmfpodeaa.X
open Go.RowKit Go.Proofs.YtjjbhpbmfpodeaaW.PrintWords Go.Proofs.YtjjbhpbmfpodeaaW.PrintLast Go.Proofs.YtjjbhpbmfpodeaaW.PrintMore
attribute [local go_sem] max2_int min2_int max_two min_two max_three min_three max_four min_four   -- for this text's walks alone
set_option linter.unusedVariables false
set_option linter.unusedSimpArgs false

/-! ### octet_Get16: function 35 -/
def octet_Get16.f (l0 : List Int) (a1 : Int) : Option (Int × Int × Int × Int) := (octet_get.f l0 a1 2).bind fun bt102 => (some (bt102.1, bt102.2.1, bt102.2.2.1, bt102.2.2.2))
set_option maxHeartbeats 8000000 in
set_option maxRecDepth 100000 in
theorem octet_Get16.calls (A0 : Option Addr) (c0 : Nat) (l0 : List Int) (a1 : Int) (r1 : Int) (r2 : Int) (r3 : Int) (r4 : Int) (w : World) (hr0 : Kd.C (Kd.int .u8) w A0 l0.length l0) (hc0 : l0.length ≤ c0) (h : octet_Get16.f l0 a1 = some (r1, r2, r3, r4)) :
    Calls Try.prog 35 #[.slice A0 l0.length c0, .int .i64 a1] w fun e w' => e = .returned (.tuple #[.int .i64 r1, .int .i64 r2, .agg #[.int .i64 r3, .int .i64 r4]]) ∧ Below w.heap.size w w' := by
  have hu31 := Try.underlying31
  have HR0 := Aside0.mk hr0
  have HC0 := Aside0.mk hc0
  clear hr0 hc0
  have HB := Aside0.mk (Below.refl w.heap.size w)
  have H : ((octet_get.f l0 a1 2).bind fun bt102 => (some (bt102.1, bt102.2.1, bt102.2.2.1, bt102.2.2.2))) = some (r1, r2, r3, r4) := h
  clear h
  replace H := Option.bind_eq_some_iff.mp H
  obtain ⟨⟨t102, t103, t104, t105⟩, A30, H⟩ := H
  replace H : (some (t102, t103, t104, t105)) = some (r1, r2, r3, r4) := H
  have A3 := Aside0.mk A30
  clear A30
  simp only [Option.some.injEq, Prod.mk.injEq] at H
  obtain ⟨rfl, rfl, rfl, rfl⟩ := H
  go_enter Try.func35, Try.ntmps35
  go_wp2_with (first | ((with_reducible refine gate_dst (N := 6) rfl ?_); refine box_event ?hg (N := 6) ?hd (cs := #[.int .i64 0, .int .i64 0]) (t := 31) ?hr ?_; (case hd => rfl); (case hg => rfl); (case hr => first | (go_simp; done) | (go_simp; rfl)); intro gb101 hg w4 hbox hb; have n0_ := Aside0.mk (below_step (by repeat (first | (with_reducible first | exact HB.out | apply below_alloc | apply pw_below_drewN | apply below_drew1) | exact HB.out)) hb); have n1_ := Aside0.mk (hbox); have n2_ := Aside0.mk ((by rw [hg]; exact (below_size (by repeat (first | (with_reducible first | exact HB.out | apply below_alloc | apply pw_below_drewN | apply below_drew1) | exact HB.out))) : w.heap.size ≤ gb101)); have n3_ := Aside0.mk ((by rw [hg]; exact (below_size (by repeat (first | (with_reducible first | exact HB.out | apply below_alloc | apply pw_below_drewN | apply below_drew1) | exact HB.out))) : w.heap.size ≤ gb101)); clear HB; have HB := n0_; have BK101 := n1_; have GW101 := n2_; have GE101 := n3_; clear n0_ n1_ n2_ n3_; clear hb hbox hg) | ((with_reducible refine gate_callee (f := 91) rfl ?_); refine goesL_ (some 9) rfl rfl Try.func91 (by kernel_rfl) rfl #[.slice A0 l0.length c0, .int .i64 a1, .int .i64 2] rfl (by (try simp only [List.map_toArray, List.map_cons, List.map_nil]); first | done | rfl | (simp only [List.length_drop, List.length_take]; rfl)) ?_; (with_reducible refine (octet_get.calls _ _ l0 a1 2 t102 t103 t104 t105 _ ?side1 ?side2 A3.out).mono ?_); (case side1 => repeat (first | exact (Kd.C_below HR0.out HB.out) | (with_reducible refine Kd.C_alloc ?_ _) | (with_reducible refine Kd.C_drewN ?_ _) | (with_reducible refine Kd.C_drew ?_))); (case side2 => exact HC0.out); rintro e w5 ⟨rfl, hb⟩; refine ⟨_, rfl, ?_⟩; have n0_ := Aside0.mk (blk_below (g := gb101) (o := .cells #[.int .i64 0, .int .i64 0] 31 (0, 0)) (by (with_reducible repeat (first | refine blk_drewN ?_ _ | refine blk_drew ?_ | refine blk_alloc ?_ _)); exact BK101.out) hb); have n1_ := Aside0.mk (below_step (by repeat (first | (with_reducible first | exact HB.out | apply below_alloc | apply pw_below_drewN | apply below_drew1 | refine below_set ?_ GE101.out) | exact HB.out)) hb); clear BK101; clear HB; have BK101 := n0_; have HB := n1_; clear n0_ n1_; (try clear hb); (try clear hb2); (try clear hk); (try clear hi); have hcz6_0 : w5.cell? ⟨gb101, 0, none⟩ = some (.int .i64 0) := (blk_cell BK101.out 0).trans rfl; have hcz6_1 : w5.cell? ⟨gb101, 1, none⟩ = some (.int .i64 0) := (blk_cell BK101.out 1).trans rfl; have hfz6_0 := blk_frozen BK101.out 0; have hfz6_1 := blk_frozen BK101.out 1))
  refine bodyPost_ret (results_list (rs := [.tmp 4, .tmp 5, .cell 6 31]) rfl (by simp) (.tmp (.tmp (.cell gb101 31 #[.int .i64 t104, .int .i64 t105] (0, 0) _ rfl (by (with_reducible repeat (first | refine blk_drewN ?_ _ | refine blk_drew ?_ | refine blk_alloc ?_ _)); refine blk_put (cs := #[.int .i64 t104, .int .i64 0]) ?_ 1 _ rfl; (with_reducible repeat (first | refine blk_drewN ?_ _ | refine blk_drew ?_ | refine blk_alloc ?_ _)); refine blk_put (cs := #[.int .i64 0, .int .i64 0]) ?_ 0 _ rfl; (with_reducible repeat (first | refine blk_drewN ?_ _ | refine blk_drew ?_ | refine blk_alloc ?_ _)); exact BK101.out) Try.underlying31 rfl (by kernel_rfl) .nil)))) rfl ?_
  exact ⟨by first | rfl | (simp [errW_none, errW_some] <;> rfl) | (simp [*, errW_none, errW_some] <;> rfl), by repeat (first | (with_reducible first | exact HB.out | apply below_alloc | apply pw_below_drewN | apply below_drew1 | refine below_set ?_ GE101.out) | exact HB.out)⟩

end Go.Proofs.Ytjjbhpbmfpodeaa.X
end
section
namespace Go.Proofs.Ytjjbhpbmfpodeaa.X
open Go.RowKit Go.Proofs.YtjjbhpbmfpodeaaW.PrintWords Go.Proofs.YtjjbhpbmfpodeaaW.PrintLast Go.Proofs.YtjjbhpbmfpodeaaW.PrintMore
attribute [local go_sem] max2_int min2_int max_two min_two max_three min_three max_four min_four   -- for this text's walks alone
set_option linter.unusedVariables false
set_option linter.unusedSimpArgs false

end Go.Proofs.Ytjjbhpbmfpodeaa.X
end
section
namespace Go.Proofs.Ytjjbhpbmfpodeaa.X
open Go.RowKit Go.Proofs.YtjjbhpbmfpodeaaW.PrintWords Go.Proofs.YtjjbhpbmfpodeaaW.PrintLast Go.Proofs.YtjjbhpbmfpodeaaW.PrintMore
attribute [local go_sem] max2_int min2_int max_two min_two max_three min_three max_four min_four   -- for this text's walks alone
set_option linter.unusedVariables false
set_option linter.unusedSimpArgs false

end Go.Proofs.Ytjjbhpbmfpodeaa.X
end
section
namespace Go.Proofs.Ytjjbhpbmfpodeaa.X
open Go.RowKit Go.Proofs.YtjjbhpbmfpodeaaW.PrintWords Go.Proofs.YtjjbhpbmfpodeaaW.PrintLast Go.Proofs.YtjjbhpbmfpodeaaW.PrintMore
attribute [local go_sem] max2_int min2_int max_two min_two max_three min_three max_four min_four   -- for this text's walks alone
set_option linter.unusedVariables false
set_option linter.unusedSimpArgs false

/-! ### octet_Get32: function 37 -/
def octet_Get32.f (l0 : List Int) (a1 : Int) : Option (Int × Int × Int × Int) := (octet_get.f l0 a1 4).bind fun bt102 => (some (bt102.1, bt102.2.1, bt102.2.2.1, bt102.2.2.2))
set_option maxHeartbeats 8000000 in
set_option maxRecDepth 100000 in
theorem octet_Get32.calls (A0 : Option Addr) (c0 : Nat) (l0 : List Int) (a1 : Int) (r1 : Int) (r2 : Int) (r3 : Int) (r4 : Int) (w : World) (hr0 : Kd.C (Kd.int .u8) w A0 l0.length l0) (hc0 : l0.length ≤ c0) (h : octet_Get32.f l0 a1 = some (r1, r2, r3, r4)) :
    Calls Try.prog 37 #[.slice A0 l0.length c0, .int .i64 a1] w fun e w' => e = .returned (.tuple #[.int .i64 r1, .int .i64 r2, .agg #[.int .i64 r3, .int .i64 r4]]) ∧ Below w.heap.size w w' := by
  have hu31 := Try.underlying31
  have HR0 := Aside0.mk hr0
  have HC0 := Aside0.mk hc0
  clear hr0 hc0
  have HB := Aside0.mk (Below.refl w.heap.size w)
  have H : ((octet_get.f l0 a1 4).bind fun bt102 => (some (bt102.1, bt102.2.1, bt102.2.2.1, bt102.2.2.2))) = some (r1, r2, r3, r4) := h
  clear h
  replace H := Option.bind_eq_some_iff.mp H
  obtain ⟨⟨t102, t103, t104, t105⟩, A30, H⟩ := H
  replace H : (some (t102, t103, t104, t105)) = some (r1, r2, r3, r4) := H
  have A3 := Aside0.mk A30
  clear A30
  simp only [Option.some.injEq, Prod.mk.injEq] at H
  obtain ⟨rfl, rfl, rfl, rfl⟩ := H
  go_enter Try.func37, Try.ntmps37
  go_wp2_with (first | ((with_reducible refine gate_dst (N := 6) rfl ?_); refine box_event ?hg (N := 6) ?hd (cs := #[.int .i64 0, .int .i64 0]) (t := 31) ?hr ?_; (case hd => rfl); (case hg => rfl); (case hr => first | (go_simp; done) | (go_simp; rfl)); intro gb101 hg w4 hbox hb; have n0_ := Aside0.mk (below_step (by repeat (first | (with_reducible first | exact HB.out | apply below_alloc | apply pw_below_drewN | apply below_drew1) | exact HB.out)) hb); have n1_ := Aside0.mk (hbox); have n2_ := Aside0.mk ((by rw [hg]; exact (below_size (by repeat (first | (with_reducible first | exact HB.out | apply below_alloc | apply pw_below_drewN | apply below_drew1) | exact HB.out))) : w.heap.size ≤ gb101)); have n3_ := Aside0.mk ((by rw [hg]; exact (below_size (by repeat (first | (with_reducible first | exact HB.out | apply below_alloc | apply pw_below_drewN | apply below_drew1) | exact HB.out))) : w.heap.size ≤ gb101)); clear HB; have HB := n0_; have BK101 := n1_; have GW101 := n2_; have GE101 := n3_; clear n0_ n1_ n2_ n3_; clear hb hbox hg) | ((with_reducible refine gate_callee (f := 91) rfl ?_); refine goesL_ (some 9) rfl rfl Try.func91 (by kernel_rfl) rfl #[.slice A0 l0.length c0, .int .i64 a1, .int .i64 4] rfl (by (try simp only [List.map_toArray, List.map_cons, List.map_nil]); first | done | rfl | (simp only [List.length_drop, List.length_take]; rfl)) ?_; (with_reducible refine (octet_get.calls _ _ l0 a1 4 t102 t103 t104 t105 _ ?side1 ?side2 A3.out).mono ?_); (case side1 => repeat (first | exact (Kd.C_below HR0.out HB.out) | (with_reducible refine Kd.C_alloc ?_ _) | (with_reducible refine Kd.C_drewN ?_ _) | (with_reducible refine Kd.C_drew ?_))); (case side2 => exact HC0.out); rintro e w5 ⟨rfl, hb⟩; refine ⟨_, rfl, ?_⟩; have n0_ := Aside0.mk (blk_below (g := gb101) (o := .cells #[.int .i64 0, .int .i64 0] 31 (0, 0)) (by (with_reducible repeat (first | refine blk_drewN ?_ _ | refine blk_drew ?_ | refine blk_alloc ?_ _)); exact BK101.out) hb); have n1_ := Aside0.mk (below_step (by repeat (first | (with_reducible first | exact HB.out | apply below_alloc | apply pw_below_drewN | apply below_drew1 | refine below_set ?_ GE101.out) | exact HB.out)) hb); clear BK101; clear HB; have BK101 := n0_; have HB := n1_; clear n0_ n1_; (try clear hb); (try clear hb2); (try clear hk); (try clear hi); have hcz6_0 : w5.cell? ⟨gb101, 0, none⟩ = some (.int .i64 0) := (blk_cell BK101.out 0).trans rfl; have hcz6_1 : w5.cell? ⟨gb101, 1, none⟩ = some (.int .i64 0) := (blk_cell BK101.out 1).trans rfl; have hfz6_0 := blk_frozen BK101.out 0; have hfz6_1 := blk_frozen BK101.out 1))
  refine bodyPost_ret (results_list (rs := [.tmp 4, .tmp 5, .cell 6 31]) rfl (by simp) (.tmp (.tmp (.cell gb101 31 #[.int .i64 t104, .int .i64 t105] (0, 0) _ rfl (by (with_reducible repeat (first | refine blk_drewN ?_ _ | refine blk_drew ?_ | refine blk_alloc ?_ _)); refine blk_put (cs := #[.int .i64 t104, .int .i64 0]) ?_ 1 _ rfl; (with_reducible repeat (first | refine blk_drewN ?_ _ | refine blk_drew ?_ | refine blk_alloc ?_ _)); refine blk_put (cs := #[.int .i64 0, .int .i64 0]) ?_ 0 _ rfl; (with_reducible repeat (first | refine blk_drewN ?_ _ | refine blk_drew ?_ | refine blk_alloc ?_ _)); exact BK101.out) Try.underlying31 rfl (by kernel_rfl) .nil)))) rfl ?_
  exact ⟨by first | rfl | (simp [errW_none, errW_some] <;> rfl) | (simp [*, errW_none, errW_some] <;> rfl), by repeat (first | (with_reducible first | exact HB.out | apply below_alloc | apply pw_below_drewN | apply below_drew1 | refine below_set ?_ GE101.out) | exact HB.out)⟩

end Go.Proofs.Ytjjbhpbmfpodeaa.X
end
section
namespace Go.Proofs.Ytjjbhpbmfpodeaa.X
open Go.RowKit Go.Proofs.YtjjbhpbmfpodeaaW.PrintWords Go.Proofs.YtjjbhpbmfpodeaaW.PrintLast Go.Proofs.YtjjbhpbmfpodeaaW.PrintMore
attribute [local go_sem] max2_int min2_int max_two min_two max_three min_three max_four min_four   -- for this text's walks alone
set_option linter.unusedVariables false
set_option linter.unusedSimpArgs false

end Go.Proofs.Ytjjbhpbmfpodeaa.X
end
section
namespace Go.Proofs.Ytjjbhpbmfpodeaa.X
open Go.RowKit Go.Proofs.YtjjbhpbmfpodeaaW.PrintWords Go.Proofs.YtjjbhpbmfpodeaaW.PrintLast Go.Proofs.YtjjbhpbmfpodeaaW.PrintMore
attribute [local go_sem] max2_int min2_int max_two min_two max_three min_three max_four min_four   -- for this text's walks alone
set_option linter.unusedVariables false
set_option linter.unusedSimpArgs false

/-! ### octet_Bytes: function 39 -/
def octet_Bytes.j0 : Nat → List Int → Int → Int → Bool → Option (List Int × Int × Int × Int)
  | 0, _, _, _, _ => none
  | k + 1, x0, x1, x2, x13 => if x13 = true then (some (([] : List Int), 0, 5, 0)) else (if (wrap64 ((x0.length : Int) - x1)) < x2 then (some (([] : List Int), 0, 4, (x0.length : Int))) else ((some (([] : List Int) : List Int)).bind fun y102 => (if 0 ≤ x1 then (if x1 ≤ (wrap64 (x1 + x2)) then (if (wrap64 (x1 + x2)) ≤ (x0.length : Int) then (if y102.length + ((x0.take ((wrap64 (x1 + x2)) : Int).toNat).drop (x1 : Int).toNat).length < 140737488355328 then (some ((y102 ++ ((x0.take ((wrap64 (x1 + x2)) : Int).toNat).drop (x1 : Int).toNat)), wrap64 (x1 + x2), 0, 0)) else (none)) else (none)) else (none)) else (none))))
def octet_Bytes.f (k : Nat) (l0 : List Int) (a1 : Int) (a2 : Int) : Option (List Int × Int × Int × Int) := if a2 < 0 then (some (([] : List Int), 0, 2, 0)) else (if a1 < 0 then (octet_Bytes.j0 k l0 a1 a2 true) else (octet_Bytes.j0 k l0 a1 a2 (decide (a1 > (l0.length : Int)))))
set_option maxHeartbeats 8000000 in
set_option maxRecDepth 100000 in
theorem octet_Bytes.calls (k : Nat) (A0 : Option Addr) (c0 : Nat) (l0 : List Int) (a1 : Int) (a2 : Int) (r1 : List Int) (r2 : Int) (r3 : Int) (r4 : Int) (w : World) (hr0 : Kd.C (Kd.int .u8) w A0 l0.length l0) (hc0 : l0.length ≤ c0) (h : octet_Bytes.f k l0 a1 a2 = some (r1, r2, r3, r4)) :
    Calls Try.prog 39 #[.slice A0 l0.length c0, .int .i64 a1, .int .i64 a2] w fun e w' => ∃ v0_ : Value, e = .returned (.tuple #[v0_, .int .i64 r2, .agg #[.int .i64 r3, .int .i64 r4]]) ∧ Kd.R (Kd.int .u8) 5 w' w.heap.size (fun _ => True) v0_ r1 ∧ Below w.heap.size w w' := by
  have hu31 := Try.underlying31
  have HR0 := Aside0.mk hr0
  have HC0 := Aside0.mk hc0
  clear hr0 hc0
  have HB := Aside0.mk (Below.refl w.heap.size w)
  have H : (if a2 < 0 then (some (([] : List Int), 0, 2, 0)) else (if a1 < 0 then (octet_Bytes.j0 k l0 a1 a2 true) else (octet_Bytes.j0 k l0 a1 a2 (decide (a1 > (l0.length : Int)))))) = some (r1, r2, r3, r4) := h
  clear h
  by_cases c4 : a2 < 0
  · rw [if_pos c4] at H
    have c4b0 : decide (a2 < 0) = true := decide_eq_true c4
    clear c4
    simp only [Option.some.injEq, Prod.mk.injEq] at H
    obtain ⟨rfl, rfl, rfl, rfl⟩ := H
    go_enter Try.func39, Try.ntmps39
    go_wp2_with (first | ((with_reducible refine gate_dst (N := 8) rfl ?_); (try (refine gate_guard (by rfl) ?_; dsimp only)); refine box_event ?hg (N := 8) ?hd (cs := #[.int .i64 0, .int .i64 0]) (t := 31) ?hr ?_; (case hd => rfl); (case hg => rfl); (case hr => first | (go_simp; done) | (go_simp; rfl)); intro gb101 hg w5 hbox hb; have n0_ := Aside0.mk (below_step (by repeat (first | (with_reducible first | exact HB.out | apply below_alloc | apply pw_below_drewN | apply below_drew1) | exact HB.out)) hb); have n1_ := Aside0.mk (hbox); have n2_ := Aside0.mk ((by rw [hg]; exact (below_size (by repeat (first | (with_reducible first | exact HB.out | apply below_alloc | apply pw_below_drewN | apply below_drew1) | exact HB.out))) : w.heap.size ≤ gb101)); have n3_ := Aside0.mk ((by rw [hg]; exact (below_size (by repeat (first | (with_reducible first | exact HB.out | apply below_alloc | apply pw_below_drewN | apply below_drew1) | exact HB.out))) : w.heap.size ≤ gb101)); clear HB; have HB := n0_; have BK101 := n1_; have GW101 := n2_; have GE101 := n3_; clear n0_ n1_ n2_ n3_; clear hb hbox hg; have hcz6_0 : w5.cell? ⟨gb101, 0, none⟩ = some (.int .i64 0) := (blk_cell BK101.out 0).trans rfl; have hcz6_1 : w5.cell? ⟨gb101, 1, none⟩ = some (.int .i64 0) := (blk_cell BK101.out 1).trans rfl; have hfz6_0 := blk_frozen BK101.out 0; have hfz6_1 := blk_frozen BK101.out 1))
    refine bodyPost_ret (results_list (rs := [.tmp 6, .tmp 7, .cell 8 31]) rfl (by simp) (.tmp (.tmp (.cell gb101 31 #[.int .i64 2, .int .i64 0] (0, 0) _ rfl (by (with_reducible repeat (first | refine blk_drewN ?_ _ | refine blk_drew ?_ | refine blk_alloc ?_ _)); refine blk_put (cs := #[.int .i64 2, .int .i64 0]) ?_ 1 _ rfl; (with_reducible repeat (first | refine blk_drewN ?_ _ | refine blk_drew ?_ | refine blk_alloc ?_ _)); refine blk_put (cs := #[.int .i64 0, .int .i64 0]) ?_ 0 _ rfl; (with_reducible repeat (first | refine blk_drewN ?_ _ | refine blk_drew ?_ | refine blk_alloc ?_ _)); exact BK101.out) Try.underlying31 rfl (by kernel_rfl) .nil)))) rfl ?_
    exact ⟨_, by first | rfl | (simp [errW_none, errW_some] <;> rfl) | (simp [*, errW_none, errW_some] <;> rfl), by first | exact Kd.R_nil _ _ _ _ _ | exact Kd.N_nil _ _ _ _ _ | exact Kd.V_nil _ _ _ _ _ | exact Kd.Q_nil _ _ _ _ _ | exact Kd.S_nil _ _ _ _ _, by repeat (first | (with_reducible first | exact HB.out | apply below_alloc | apply pw_below_drewN | apply below_drew1 | refine below_set ?_ GE101.out) | exact HB.out)⟩
  · rw [if_neg c4] at H
    have c4b0 : decide (a2 < 0) = false := decide_eq_false c4
    clear c4
    have HC7 := Aside0.mk H
    clear H
    go_enter Try.func39, Try.ntmps39
    go_upto_region 3 with (first | ((with_reducible refine gate_dst (N := 8) rfl ?_); (try (refine gate_guard (by rfl) ?_; dsimp only)); refine box_event ?hg (N := 8) ?hd (cs := #[.int .i64 0, .int .i64 0]) (t := 31) ?hr ?_; (case hd => rfl); (case hg => rfl); (case hr => first | (go_simp; done) | (go_simp; rfl)); intro gb101 hg w8 hbox hb; have n0_ := Aside0.mk (below_step (by repeat (first | (with_reducible first | exact HB.out | apply below_alloc | apply pw_below_drewN | apply below_drew1) | exact HB.out)) hb); have n1_ := Aside0.mk (hbox); have n2_ := Aside0.mk ((by rw [hg]; exact (below_size (by repeat (first | (with_reducible first | exact HB.out | apply below_alloc | apply pw_below_drewN | apply below_drew1) | exact HB.out))) : w.heap.size ≤ gb101)); have n3_ := Aside0.mk ((by rw [hg]; exact (below_size (by repeat (first | (with_reducible first | exact HB.out | apply below_alloc | apply pw_below_drewN | apply below_drew1) | exact HB.out))) : w.heap.size ≤ gb101)); clear HB; have HB := n0_; have BK101 := n1_; have GW101 := n2_; have GE101 := n3_; clear n0_ n1_ n2_ n3_; clear hb hbox hg))
    (try simp only [Act.put, List.setIfInBounds_toArray, List.set_cons_zero, List.set_cons_succ])
    go_cut [13] (fun v13 wc => ∃ (kq : Nat) (x13_6 : Bool), v13 = .bool x13_6 ∧ Aside0 (octet_Bytes.j0 kq l0 a1 a2 x13_6 = some (r1, r2, r3, r4)) ∧ Aside0 (kq ≤ k) ∧ Aside0 (wc.heap[gb101]? = some (.cells #[.int .i64 0, .int .i64 0] 31 (0, 0))) ∧ Aside0 (Below w.heap.size w wc))
    case first =>
      have H := HC7.out
      clear HC7
      by_cases c9 : a1 < 0
      · rw [if_pos c9] at H
        have c9b0 : decide (a1 < 0) = true := decide_eq_true c9
        clear c9
        (first | rw [c9b0] | (simp only [i64_w, i32_w]; rw [c9b0]) | skip)
        have H' := Aside0.mk H
        clear H
        go_wp2
        go_meet
        case rel => exact ⟨_, (true), (by first | rfl | (simp; done) | (simp [*]; done)), H', ⟨by first | omega | exact Nat.le_refl _⟩, ⟨by (with_reducible repeat (first | refine blk_drewN ?_ _ | refine blk_drew ?_ | refine blk_alloc ?_ _)); exact BK101.out⟩, ⟨by repeat (first | (with_reducible first | exact HB.out | apply below_alloc | apply pw_below_drewN | apply below_drew1 | refine below_set ?_ GE101.out) | exact HB.out)⟩⟩
      · rw [if_neg c9] at H
        have c9b0 : decide (a1 < 0) = false := decide_eq_false c9
        clear c9
        (first | rw [c9b0] | (simp only [i64_w, i32_w]; rw [c9b0]) | skip)
        have H' := Aside0.mk H
        clear H
        go_wp2
        go_meet
        case rel => exact ⟨_, (decide (a1 > (l0.length : Int))), (by first | rfl | (simp; done) | (simp [*]; done)), H', ⟨by first | omega | exact Nat.le_refl _⟩, ⟨by (with_reducible repeat (first | refine blk_drewN ?_ _ | refine blk_drew ?_ | refine blk_alloc ?_ _)); exact BK101.out⟩, ⟨by repeat (first | (with_reducible first | exact HB.out | apply below_alloc | apply pw_below_drewN | apply below_drew1 | refine below_set ?_ GE101.out) | exact HB.out)⟩⟩
    case rest =>
      clear HC7
      try clear p2
      try clear c3
      try clear c4
      try clear c4b0
      try clear c9
      try clear c9b0
      try clear hcz6_0
      try clear hcz6_1
      try clear hfz6_0
      try clear hfz6_1
      obtain ⟨kq, x13_6, rfl, HA, HJ6, BK101, HB⟩ := hcut
      cases kq with
      | zero => exact absurd HA.out (by simp [octet_Bytes.j0])
      | succ kj6 =>
        have H := HA.out
        clear HA
        simp only [octet_Bytes.j0] at H
        by_cases c10 : x13_6 = true
        · subst c10
          have H1 : (some (([] : List Int), 0, 5, 0)) = some (r1, r2, r3, r4) := by rw [if_pos rfl] at H; exact H
          clear H
          have H := H1
          clear H1
          simp only [Option.some.injEq, Prod.mk.injEq] at H
          obtain ⟨rfl, rfl, rfl, rfl⟩ := H
          have hcz11_0 : wc.cell? ⟨gb101, 0, none⟩ = some (.int .i64 0) := (blk_cell BK101.out 0).trans rfl
          have hcz11_1 : wc.cell? ⟨gb101, 1, none⟩ = some (.int .i64 0) := (blk_cell BK101.out 1).trans rfl
          have hfz11_0 := blk_frozen BK101.out 0
          have hfz11_1 := blk_frozen BK101.out 1
          go_wp2
          refine bodyPost_ret (results_list (rs := [.tmp 6, .tmp 7, .cell 8 31]) rfl (by simp) (.tmp (.tmp (.cell gb101 31 #[.int .i64 5, .int .i64 0] (0, 0) _ rfl (by (with_reducible repeat (first | refine blk_drewN ?_ _ | refine blk_drew ?_ | refine blk_alloc ?_ _)); refine blk_put (cs := #[.int .i64 5, .int .i64 0]) ?_ 1 _ rfl; (with_reducible repeat (first | refine blk_drewN ?_ _ | refine blk_drew ?_ | refine blk_alloc ?_ _)); refine blk_put (cs := #[.int .i64 0, .int .i64 0]) ?_ 0 _ rfl; (with_reducible repeat (first | refine blk_drewN ?_ _ | refine blk_drew ?_ | refine blk_alloc ?_ _)); exact BK101.out) Try.underlying31 rfl (by kernel_rfl) .nil)))) rfl ?_
          exact ⟨_, by first | rfl | (simp [errW_none, errW_some] <;> rfl) | (simp [*, errW_none, errW_some] <;> rfl), by first | exact Kd.R_nil _ _ _ _ _ | exact Kd.N_nil _ _ _ _ _ | exact Kd.V_nil _ _ _ _ _ | exact Kd.Q_nil _ _ _ _ _ | exact Kd.S_nil _ _ _ _ _, by repeat (first | (with_reducible first | exact HB.out | apply below_alloc | apply pw_below_drewN | apply below_drew1 | refine below_set ?_ GE101.out) | exact HB.out)⟩
        · replace c10 := Bool.eq_false_iff.mpr c10
          subst c10
          have H1 : (if (wrap64 ((l0.length : Int) - a1)) < a2 then (some (([] : List Int), 0, 4, (l0.length : Int))) else ((some (([] : List Int) : List Int)).bind fun y102 => (if 0 ≤ a1 then (if a1 ≤ (wrap64 (a1 + a2)) then (if (wrap64 (a1 + a2)) ≤ (l0.length : Int) then (if y102.length + ((l0.take ((wrap64 (a1 + a2)) : Int).toNat).drop (a1 : Int).toNat).length < 140737488355328 then (some ((y102 ++ ((l0.take ((wrap64 (a1 + a2)) : Int).toNat).drop (a1 : Int).toNat)), wrap64 (a1 + a2), 0, 0)) else (none)) else (none)) else (none)) else (none)))) = some (r1, r2, r3, r4) := by rw [if_neg (show ¬ (false = true) by decide)] at H; exact H
          clear H
          have H := H1
          clear H1
          by_cases c12 : (wrap64 ((l0.length : Int) - a1)) < a2
          · rw [if_pos c12] at H
            have c12b0 : decide ((wrap64 ((l0.length : Int) - a1)) < a2) = true := decide_eq_true c12
            clear c12
            simp only [Option.some.injEq, Prod.mk.injEq] at H
            obtain ⟨rfl, rfl, rfl, rfl⟩ := H
            have hcz13_0 : wc.cell? ⟨gb101, 0, none⟩ = some (.int .i64 0) := (blk_cell BK101.out 0).trans rfl
            have hcz13_1 : wc.cell? ⟨gb101, 1, none⟩ = some (.int .i64 0) := (blk_cell BK101.out 1).trans rfl
            have hfz13_0 := blk_frozen BK101.out 0
            have hfz13_1 := blk_frozen BK101.out 1
            go_wp2
            refine bodyPost_ret (results_list (rs := [.tmp 6, .tmp 7, .cell 8 31]) rfl (by simp) (.tmp (.tmp (.cell gb101 31 #[.int .i64 4, .int .i64 (l0.length : Int)] (0, 0) _ rfl (by (with_reducible repeat (first | refine blk_drewN ?_ _ | refine blk_drew ?_ | refine blk_alloc ?_ _)); refine blk_put (cs := #[.int .i64 4, .int .i64 0]) ?_ 1 _ rfl; (with_reducible repeat (first | refine blk_drewN ?_ _ | refine blk_drew ?_ | refine blk_alloc ?_ _)); refine blk_put (cs := #[.int .i64 0, .int .i64 0]) ?_ 0 _ rfl; (with_reducible repeat (first | refine blk_drewN ?_ _ | refine blk_drew ?_ | refine blk_alloc ?_ _)); exact BK101.out) Try.underlying31 rfl (by kernel_rfl) .nil)))) rfl ?_
            exact ⟨_, by first | rfl | (simp [errW_none, errW_some] <;> rfl) | (simp [*, errW_none, errW_some] <;> rfl), by first | exact Kd.R_nil _ _ _ _ _ | exact Kd.N_nil _ _ _ _ _ | exact Kd.V_nil _ _ _ _ _ | exact Kd.Q_nil _ _ _ _ _ | exact Kd.S_nil _ _ _ _ _, by repeat (first | (with_reducible first | exact HB.out | apply below_alloc | apply pw_below_drewN | apply below_drew1 | refine below_set ?_ GE101.out) | exact HB.out)⟩
          · rw [if_neg c12] at H
            have c12b0 : decide ((wrap64 ((l0.length : Int) - a1)) < a2) = false := decide_eq_false c12
            clear c12
            obtain ⟨y102, hy102⟩ : ∃ y_ : List Int, y_ = (([] : List Int)) := ⟨_, rfl⟩
            replace H : (if 0 ≤ a1 then (if a1 ≤ (wrap64 (a1 + a2)) then (if (wrap64 (a1 + a2)) ≤ (l0.length : Int) then (if y102.length + ((l0.take ((wrap64 (a1 + a2)) : Int).toNat).drop (a1 : Int).toNat).length < 140737488355328 then (some ((y102 ++ ((l0.take ((wrap64 (a1 + a2)) : Int).toNat).drop (a1 : Int).toNat)), wrap64 (a1 + a2), 0, 0)) else (none)) else (none)) else (none)) else (none)) = some (r1, r2, r3, r4) := by first | (rw [hy102]; with_reducible exact H) | (have H2_ := (Option.bind_some _ _).symm.trans H; rw [hy102]; with_reducible exact H2_) | (have H2_ := (Option.bind_some _ _).symm.trans H; with_reducible exact H2_) | with_reducible exact H | (rw [hy102]; exact H) | exact H
            have Ny102 := Aside0.mk hy102
            clear hy102
            by_cases c14 : 0 ≤ a1
            · rw [if_pos c14] at H
              have c14b0 := eq_true c14
              have c14b1 : decide (0 ≤ a1) = true := decide_eq_true c14
              clear c14
              by_cases c15 : a1 ≤ (wrap64 (a1 + a2))
              · rw [if_pos c15] at H
                have c15b0 := eq_true c15
                have c15b1 : decide (a1 ≤ (wrap64 (a1 + a2))) = true := decide_eq_true c15
                by_cases c16 : (wrap64 (a1 + a2)) ≤ (l0.length : Int)
                · rw [if_pos c16] at H
                  have c16b0 := eq_true c16
                  have c16b1 : decide ((wrap64 (a1 + a2)) ≤ (l0.length : Int)) = true := decide_eq_true c16
                  by_cases c17 : y102.length + ((l0.take ((wrap64 (a1 + a2)) : Int).toNat).drop (a1 : Int).toNat).length < 140737488355328
                  · rw [if_pos c17] at H
                    have LMc17 := Aside0.mk c17
                    clear c17
                    obtain ⟨y106, hy106⟩ : ∃ y_ : List Int, y_ = (y102 ++ ((l0.take ((wrap64 (a1 + a2)) : Int).toNat).drop (a1 : Int).toNat)) := ⟨_, rfl⟩
                    replace H : (some (y106, wrap64 (a1 + a2), 0, 0)) = some (r1, r2, r3, r4) := by first | (rw [hy106]; with_reducible exact H) | (have H2_ := (Option.bind_some _ _).symm.trans H; rw [hy106]; with_reducible exact H2_) | (have H2_ := (Option.bind_some _ _).symm.trans H; with_reducible exact H2_) | with_reducible exact H | (rw [hy106]; exact H) | exact H
                    have Ny106 := Aside0.mk hy106
                    clear hy106
                    simp only [Option.some.injEq, Prod.mk.injEq] at H
                    obtain ⟨rfl, rfl, rfl, rfl⟩ := H
                    go_wp2_with (first | ((with_reducible refine gate_dst (N := 33) rfl ?_); (try (refine gate_guard (by rfl) ?_; dsimp only)); refine Kd.R_lit (Kd.int .u8) _ 5 ?hg (N := 33) ?hd (xs := ([] : List Int)) (inner := []) (ok := fun _ => True) (okp := fun _ => True) ?hr ?hp (fun _ hk => hk) trivial (Below.refl _ _) (Nat.le_refl _) (by simp) ?_; (case hd => rfl); (case hg => rfl); (case hr => first | (go_simp; done) | (go_simp; rfl)); (case hp => exact (Reps.none _ _)); intro v103 w18 ho19 hb hg_ hnew_; clear hg_ hnew_; (first | rw [← Ny102.out] at ho19 | (simp only [Int.reduceToNat] at ho19; rw [← Ny102.out] at ho19)); have n0_ := Aside0.mk (Kd.R_lower ho19 (below_size (by repeat (first | (with_reducible first | exact HB.out | apply below_alloc | apply pw_below_drewN | apply below_drew1 | refine below_set ?_ GE101.out) | exact HB.out)))); have n1_ := Aside0.mk (blk_below (g := gb101) (o := .cells #[.int .i64 0, .int .i64 0] 31 (0, 0)) (by (with_reducible repeat (first | refine blk_drewN ?_ _ | refine blk_drew ?_ | refine blk_alloc ?_ _)); exact BK101.out) hb); have n2_ := Aside0.mk (below_step (by repeat (first | (with_reducible first | exact HB.out | apply below_alloc | apply pw_below_drewN | apply below_drew1 | refine below_set ?_ GE101.out) | exact HB.out)) hb); clear BK101; clear HB; have HO104 := n0_; have BK101 := n1_; have HB := n2_; clear n0_ n1_ n2_; clear hb ho19; obtain ⟨i020, hi020, _, hsz20, _⟩ := info_parts info5; obtain ⟨A20, hcut20, hA20, hC20⟩ := print_mid_of (P := Try.prog) (Value.int .u8) 0 22 5 .i64 .i64 Try.underlying22 hi020 hsz20 A0 c0 l0 a1 (wrap64 (a1 + a2)) (of_decide_eq_true (by first | (with_reducible assumption) | assumption)) (by first | omega | exact of_decide_eq_true (by first | (with_reducible assumption) | assumption)) (of_decide_eq_true (by first | (with_reducible assumption) | assumption)) HC0.out; have HR105 := Aside0.mk (Kd.C_of_reads (h1 := fun _ => rfl) (hA20 _ (Kd.reads_of_C HR0.out))); have HC105 := Aside0.mk hC20; clear hA20 hC20 hi020 hsz20) | ((with_reducible refine gate_builtin (b := .append) (xs := #[.tmp 33, .tmp 39]) rfl ?_); (try (refine gate_guard (by rfl) ?_; dsimp only)); at_builtin; refine Kd.R_append_rows (Kd.int .u8) (w0 := w) w.heap.size rfl (.tmp 33) (.tmp 39) 22 5 (.int .u8 0) 1 rfl Try.underlying22 info5 rfl (by decide) (by omega) v103 y102 ((l0.take ((wrap64 (a1 + a2)) : Int).toNat).drop (a1 : Int).toNat) _ _ _ (fun _ => True) (fun _ => False) rfl rfl ?aO ?aR (fun _ _ h => h) (fun _ h => h.elim) ?aF ?aB ?aS ?aL ?_; (case aR => first | (rw [← show ((l0.take ((wrap64 (a1 + a2)) : Int).toNat).drop (a1 : Int).toNat).length = ((wrap64 (a1 + a2)).toNat - a1.toNat) from (by rw [List.length_drop, List.length_take]; have h_ : ((wrap64 (a1 + a2)) : Int) ≤ (l0.length : Int) := of_decide_eq_true (by first | (with_reducible assumption) | assumption); omega)]; repeat (first | exact (Kd.C_below HR105.out HB.out) | (with_reducible refine Kd.C_alloc ?_ _) | (with_reducible refine Kd.C_drewN ?_ _) | (with_reducible refine Kd.C_drew ?_))) | (repeat (first | exact (Kd.C_below HR105.out HB.out) | (with_reducible refine Kd.C_alloc ?_ _) | (with_reducible refine Kd.C_drewN ?_ _) | (with_reducible refine Kd.C_drew ?_)))); (case aB => exact (by repeat (first | (with_reducible first | exact HB.out | apply below_alloc | apply pw_below_drewN | apply below_drew1 | refine below_set ?_ GE101.out) | exact HB.out))); (case aF => exact (fun _ _ => trivial)); (case aO => exact (by (with_reducible repeat (first | apply Kd.R_alloc | apply Kd.R_drewN | apply Kd.R_drew)); exact HO104.out)); (case aS => exact (below_size (by repeat (first | (with_reducible first | exact HB.out | apply below_alloc | apply pw_below_drewN | apply below_drew1 | refine below_set ?_ GE101.out) | exact HB.out)))); (case aL => have := LMc17.out; have hlx_ := (show ((l0.take ((wrap64 (a1 + a2)) : Int).toNat).drop (a1 : Int).toNat).length = ((wrap64 (a1 + a2)).toNat - a1.toNat) from (by rw [List.length_drop, List.length_take]; have h_ : ((wrap64 (a1 + a2)) : Int) ≤ (l0.length : Int) := of_decide_eq_true (by first | (with_reducible assumption) | assumption); omega)); omega); intro v107 w21 ho hb hg hat; rw [← Ny106.out] at ho; have n0_ := Aside0.mk (blk_grown (g := gb101) (o := .cells #[.int .i64 0, .int .i64 0] 31 (0, 0)) (by (with_reducible repeat (first | refine blk_drewN ?_ _ | refine blk_drew ?_ | refine blk_alloc ?_ _)); exact BK101.out) hg (Kd.R_ne HO104.out BK101.out (by decide))); have n1_ := Aside0.mk (hb); have n2_ := Aside0.mk (ho); clear BK101; clear HB; clear HO104; have BK101 := n0_; have HB := n1_; have HO108 := n2_; clear n0_ n1_ n2_; clear ho hb hg hat; have hcz22_0 : w21.cell? ⟨gb101, 0, none⟩ = some (.int .i64 0) := (blk_cell BK101.out 0).trans rfl; have hcz22_1 : w21.cell? ⟨gb101, 1, none⟩ = some (.int .i64 0) := (blk_cell BK101.out 1).trans rfl; have hfz22_0 := blk_frozen BK101.out 0; have hfz22_1 := blk_frozen BK101.out 1))
                    refine bodyPost_ret (results_list (rs := [.tmp 6, .tmp 7, .cell 8 31]) rfl (by simp) (.tmp (.tmp (.cell gb101 31 #[.int .i64 0, .int .i64 0] (0, 0) _ rfl (by (with_reducible repeat (first | refine blk_drewN ?_ _ | refine blk_drew ?_ | refine blk_alloc ?_ _)); refine blk_put (cs := #[.int .i64 0, .int .i64 0]) ?_ 1 _ rfl; (with_reducible repeat (first | refine blk_drewN ?_ _ | refine blk_drew ?_ | refine blk_alloc ?_ _)); refine blk_put (cs := #[.int .i64 0, .int .i64 0]) ?_ 0 _ rfl; (with_reducible repeat (first | refine blk_drewN ?_ _ | refine blk_drew ?_ | refine blk_alloc ?_ _)); exact BK101.out) Try.underlying31 rfl (by kernel_rfl) .nil)))) rfl ?_
                    exact ⟨_, by first | rfl | (simp [errW_none, errW_some] <;> rfl) | (simp [*, errW_none, errW_some] <;> rfl), by (with_reducible repeat (first | apply Kd.R_alloc | apply Kd.R_drewN | apply Kd.R_drew)); exact Kd.R_mono (Kd.R_far (p := ⟨gb101, 1, none⟩) (Kd.R_far (p := ⟨gb101, 0, none⟩) (Kd.R_types HO108.out BK101.out (by decide)) (fun _ hk => hk.2) (.int .i64 0)) (fun _ hk => hk.2) (.int .i64 0)) (fun _ hk => trivial), by repeat (first | (with_reducible first | exact HB.out | apply below_alloc | apply pw_below_drewN | apply below_drew1 | refine below_set ?_ GE101.out) | exact HB.out)⟩
                  · rw [if_neg c17] at H
                    exact absurd H (by simp)
                · rw [if_neg c16] at H
                  exact absurd H (by simp)
              · rw [if_neg c15] at H
                exact absurd H (by simp)
            · rw [if_neg c14] at H
              exact absurd H (by simp)

end Go.Proofs.Ytjjbhpbmfpodeaa.X
end
section
namespace Go.Proofs.Ytjjbhpbmfpodeaa.X
open Go.RowKit Go.Proofs.YtjjbhpbmfpodeaaW.PrintWords Go.Proofs.YtjjbhpbmfpodeaaW.PrintLast Go.Proofs.YtjjbhpbmfpodeaaW.PrintMore
attribute [local go_sem] max2_int min2_int max_two min_two max_three min_three max_four min_four   -- for this text's walks alone
set_option linter.unusedVariables false
set_option linter.unusedSimpArgs false

end Go.Proofs.Ytjjbhpbmfpodeaa.X
end
section
namespace Go.Proofs.Ytjjbhpbmfpodeaa.PB
open Go.RowKit Go.Proofs.Ytjjbhpbmfpodeaa.X Go.Proofs.YtjjbhpbmfpodeaaW.PrintWords Go.Proofs.YtjjbhpbmfpodeaaW.PrintLast

theorem bytesB_append {a b : List Int} : bytesB (a ++ b) = true ↔ bytesB a = true ∧ bytesB b = true := by
  simp [bytesB, List.all_append]
theorem bytesB_take {l : List Int} (n : Nat) (h : bytesB l = true) : bytesB (l.take n) = true := by
  simp only [bytesB, List.all_eq_true] at h ⊢
  exact fun x hx => h x (List.mem_of_mem_take hx)
theorem bytesB_drop {l : List Int} (n : Nat) (h : bytesB l = true) : bytesB (l.drop n) = true := by
  simp only [bytesB, List.all_eq_true] at h ⊢
  exact fun x hx => h x (List.mem_of_mem_drop hx)
theorem get_ok {l : List Int} {a s : Int} (hb : bytesB l = true) (hs : s = 2 ∨ s = 4) (hl : l.length ≤ 140737488355328) (h0 : 0 ≤ a) (h1 : a + s ≤ l.length) :
    octet_get.f l a s = some (beVal ((l.drop a.toNat).take s.toNat), a + s, 0, 0) := by
  unfold octet_get.f
  rw [if_pos ⟨hb, hs, hl⟩, if_neg (by omega), if_neg (by omega)]
theorem get_short {l : List Int} {a s : Int} (hb : bytesB l = true) (hs : s = 2 ∨ s = 4) (hl : l.length ≤ 140737488355328) (h0 : 0 ≤ a) (h1 : a ≤ l.length) (h2 : l.length < a + s) :
    octet_get.f l a s = some (0, 0, 4, (l.length : Int)) := by
  unfold octet_get.f
  rw [if_pos ⟨hb, hs, hl⟩, if_neg (by omega), if_pos (by omega)]
theorem get_range {l : List Int} {a s : Int} (hb : bytesB l = true) (hs : s = 2 ∨ s = 4) (hl : l.length ≤ 140737488355328) (h0 : a < 0 ∨ l.length < a) :
    octet_get.f l a s = some (0, 0, 5, 0) := by
  unfold octet_get.f
  rw [if_pos ⟨hb, hs, hl⟩, if_pos (by omega)]
theorem get16_of {l : List Int} {a x1 x2 x3 x4 : Int} (h : octet_get.f l a 2 = some (x1, x2, x3, x4)) : octet_Get16.f l a = some (x1, x2, x3, x4) := by
  unfold octet_Get16.f; rw [h]; rfl
theorem get32_of {l : List Int} {a x1 x2 x3 x4 : Int} (h : octet_get.f l a 4 = some (x1, x2, x3, x4)) : octet_Get32.f l a = some (x1, x2, x3, x4) := by
  unfold octet_Get32.f; rw [h]; rfl
end Go.Proofs.Ytjjbhpbmfpodeaa.PB
namespace Go.Proofs.Ytjjbhpbmfpodeaa.PB
open Go.RowKit Go.Proofs.Ytjjbhpbmfpodeaa.X Go.Proofs.YtjjbhpbmfpodeaaW.PrintWords Go.Proofs.YtjjbhpbmfpodeaaW.PrintLast
theorem w64 {x : Int} (h0 : -9223372036854775808 ≤ x) (h1 : x ≤ 9223372036854775807) : wrap64 x = x := by unfold wrap64; omega
theorem bytes_ok {k : Nat} {l : List Int} {a n : Int} (hl : l.length ≤ 140737488351232) (h0 : 0 ≤ a) (hn : 0 ≤ n) (h1 : a + n ≤ l.length) :
    octet_Bytes.f (k + 1) l a n = some ((l.drop a.toNat).take n.toNat, a + n, 0, 0) := by
  unfold octet_Bytes.f
  rw [if_neg (by omega), if_neg (by omega), decide_eq_false (by omega)]
  simp only [octet_Bytes.j0]
  rw [if_neg (by decide), w64 (x := (l.length : Int) - a) (by omega) (by omega), if_neg (by omega), w64 (x := a + n) (by omega) (by omega)]
  simp only [Option.bind_some]
  rw [if_pos h0, if_pos (by omega), if_pos h1, if_pos (by simp; omega)]
  rw [List.nil_append, List.drop_take]
  congr 3
  omega
theorem bytes_short {k : Nat} {l : List Int} {a n : Int} (hl : l.length ≤ 140737488351232) (h0 : 0 ≤ a) (ha : a ≤ l.length) (hn : 0 ≤ n) (h1 : l.length < a + n) :
    octet_Bytes.f (k + 1) l a n = some ([], 0, 4, (l.length : Int)) := by
  unfold octet_Bytes.f
  rw [if_neg (by omega), if_neg (by omega), decide_eq_false (by omega)]
  simp only [octet_Bytes.j0]
  rw [if_neg (by decide), w64 (x := (l.length : Int) - a) (by omega) (by omega), if_pos (by omega)]
end Go.Proofs.Ytjjbhpbmfpodeaa.PB
end
section
namespace Go.Proofs.Ytjjbhpbmfpodeaa.X
open Go.RowKit Go.Shelf Go.Proofs.YtjjbhpbmfpodeaaW.PrintWords Go.Proofs.YtjjbhpbmfpodeaaW.PrintLast Go.Proofs.YtjjbhpbmfpodeaaW.PrintMore
set_option linter.unusedVariables false
set_option linter.unusedSimpArgs false
attribute [local go_sem] Oper.semAt_some

/-- May the next label of what is left not be? -/
def lbBad (s : ByteArray) : Bool := s.size == 0 || decide (bt s 0 = 0) || decide (63 < bt s 0) || decide ((s.size : Int) ≤ bt s 0)
def lbRoot (s : ByteArray) : Bool := s.toList == [0]
def lbHead (s : ByteArray) : ByteArray := s.extract 1 (1 + (bt s 0).toNat)
def lbRest (s : ByteArray) : ByteArray := s.extract (1 + (bt s 0).toNat) s.size
/-- What the iterator over a name's labels yields. -/
def lbEvs : Nat → ByteArray → List (ByteArray × Bool)
  | 0, _ => []
  | k + 1, s => if lbRoot s = true then [] else if lbBad s = true then [(⟨#[]⟩, false)] else (lbHead s, true) :: lbEvs k (lbRest s)

theorem lbRest_size {s : ByteArray} (h : lbBad s = false) : (lbRest s).size < s.size ∧ (lbRest s).size + 1 + (bt s 0).toNat = s.size ∧ 1 ≤ bt s 0 ∧ bt s 0 ≤ 63 := by
  unfold lbBad at h
  simp only [Bool.or_eq_false_iff, beq_eq_false_iff_ne, decide_eq_false_iff_not] at h
  obtain ⟨⟨⟨h1, h2⟩, h3⟩, h4⟩ := h
  have := bt_range s 0
  unfold lbRest
  rw [ByteArray.size_extract]
  omega

set_option maxHeartbeats 4000000 in
set_option maxRecDepth 100000 in
theorem all1_in (n : Nat) (hn : 1 ≤ n) (l Bn N : Nat) (s0 : ByteArray) (hN : s0.size < N) (J Jx : List (ByteArray × Bool) → World → Prop)
    (hJc : ∀ s A u, J s A → J s (A.setCell ⟨Bn, 0, none⟩ u)) (hJd : ∀ s A m, J s A → J s (World.drewN A m))
    (hY : ∀ pre x W, J pre W → pre.length < N → YieldAt Fence.wide (n - 1) Try.prog l #[.string x.1, .bool x.2] W fun e W' =>
      (e = .returned (.bool true) ∧ J (pre ++ [x]) W' ∧ W'.heap[Bn]? = W.heap[Bn]?) ∨ (e = .returned (.bool false) ∧ Jx (pre ++ [x]) W'))
    (W : World) (hBW : W.heap[Bn]? = some (.cells #[.string s0] 9 (0, 0))) (h0 : J [] W) :
    CallsIn Fence.wide n Try.prog 122 #[.func (.yield l) #[] #[], .pointer (some ⟨Bn, 0, none⟩)] W fun e W' => (∃ v, e = .returned v) ∧
      ((∃ ys, ys = lbEvs N s0 ∧ J ys W') ∨ (∃ pre, pre <+: lbEvs N s0 ∧ Jx pre W')) := by
  refine callsIn_of_wp Try.func122 rfl trivial ?_ rfl
  simp only [Try.ntmps122, List.size_toArray, List.length_cons, List.length_nil, Nat.reduceAdd, Nat.reduceSub, Array.replicate_succ, Array.replicate_zero, List.push_toArray, List.append_toArray, List.nil_append, List.cons_append]
  gi_wp2
  gi_loopw [3] (fun _ wr => ∃ (pre : List (ByteArray × Bool)) (s : ByteArray) (k : Nat), lbEvs N s0 = pre ++ lbEvs k s ∧ s.size < k ∧ pre.length + k = N ∧ Aside0 (wr.heap[Bn]? = some (.cells #[.string s] 9 (0, 0))) ∧ Aside0 (J pre wr))
    (fun _ wr => match wr.cell? ⟨Bn, 0, none⟩ with | some (.string s) => s.size | _ => 0)
  case atStart => exact ⟨[], s0, N, rfl, hN, by simp, ⟨hBW⟩, ⟨h0⟩⟩
  case round =>
    obtain ⟨pre, s, k, hev, hk, hpl, HBW, HJ⟩ := hrel
    have hc : wr.cell? ⟨Bn, 0, none⟩ = some (.string s) := (blk_cell HBW.out 0).trans rfl
    have hf := blk_frozen HBW.out 0
    have HEV := Aside0.mk hev
    clear hev
    obtain ⟨k, rfl⟩ : ∃ m, k = m + 1 := ⟨k - 1, by omega⟩
    by_cases hroot : lbRoot s = true
    · have hr : (s.toList == [0]) = true := hroot
      gi_wp2
      refine bodyPost_ret (results_none rfl _ _ _) rfl ?_
      exact ⟨⟨_, rfl⟩, .inl ⟨pre, by rw [HEV.out]; simp [lbEvs, hroot], HJ.out⟩⟩
    · have hr : (s.toList == [0]) = false := by unfold lbRoot at hroot; simpa using hroot
      by_cases hz : s.size = 0
      · have hz1 : ((s.size : Int) == 0) = true := by simp [hz]
        have hbad : lbBad s = true := by simp [lbBad, hz]
        gi_wp2
        gi_quiet (fail)
        obtain ⟨fn, tmps, assign, body, hy, hR⟩ := hY pre (⟨#[]⟩, false) (wr.drewN nq) (hJd _ _ _ HJ.out) (by omega)
        gi_wp2
        refine hR.mono ?_
        rintro e W' (⟨rfl, hJ', hk'⟩ | ⟨rfl, hJx'⟩)
        · gi_wp2
          refine bodyPost_ret (results_none rfl _ _ _) rfl ?_
          exact ⟨⟨_, rfl⟩, .inl ⟨_, by rw [HEV.out]; simp [lbEvs, hroot, hbad], hJ'⟩⟩
        · gi_wp2
          refine bodyPost_ret (results_none rfl _ _ _) rfl ?_
          exact ⟨⟨_, rfl⟩, .inr ⟨_, by rw [HEV.out]; simp [lbEvs, hroot, hbad], hJx'⟩⟩
      have hz1 : ((s.size : Int) == 0) = false := beq_eq_false_iff_ne.2 (by omega)
      have hpos : 0 < s.size := by omega
      have hb0 : ∀ h : 0 < s.size, ((s[0]'h).toNat : Int) = bt s 0 := fun h => bt_at s 0 h
      have hrg := bt_range s 0
      by_cases hb : bt s 0 = 0
      · have hb1 : (bt s 0 == 0) = true := beq_iff_eq.2 hb
        have hbad : lbBad s = true := by simp [lbBad, hb]
        have HB := Aside0.mk hb
        clear hb
        gi_wp2
        gi_quiet (fail)
        obtain ⟨fn, tmps, assign, body, hy, hR⟩ := hY pre (⟨#[]⟩, false) (wr.drewN nq) (hJd _ _ _ HJ.out) (by omega)
        gi_wp2
        refine hR.mono ?_
        rintro e W' (⟨rfl, hJ', hk'⟩ | ⟨rfl, hJx'⟩)
        · gi_wp2
          refine bodyPost_ret (results_none rfl _ _ _) rfl ?_
          exact ⟨⟨_, rfl⟩, .inl ⟨_, by rw [HEV.out]; simp [lbEvs, hroot, hbad], hJ'⟩⟩
        · gi_wp2
          refine bodyPost_ret (results_none rfl _ _ _) rfl ?_
          exact ⟨⟨_, rfl⟩, .inr ⟨_, by rw [HEV.out]; simp [lbEvs, hroot, hbad], hJx'⟩⟩
      have hb1 : (bt s 0 == 0) = false := beq_eq_false_iff_ne.2 hb
      clear hb
      by_cases h63 : 63 < bt s 0
      · have h631 : decide (63 < bt s 0) = true := decide_eq_true h63
        have hbad : lbBad s = true := by simp [lbBad, h63]
        gi_wp2
        gi_quiet (fail)
        obtain ⟨fn, tmps, assign, body, hy, hR⟩ := hY pre (⟨#[]⟩, false) (wr.drewN nq) (hJd _ _ _ HJ.out) (by omega)
        gi_wp2
        refine hR.mono ?_
        rintro e W' (⟨rfl, hJ', hk'⟩ | ⟨rfl, hJx'⟩)
        · gi_wp2
          refine bodyPost_ret (results_none rfl _ _ _) rfl ?_
          exact ⟨⟨_, rfl⟩, .inl ⟨_, by rw [HEV.out]; simp [lbEvs, hroot, hbad], hJ'⟩⟩
        · gi_wp2
          refine bodyPost_ret (results_none rfl _ _ _) rfl ?_
          exact ⟨⟨_, rfl⟩, .inr ⟨_, by rw [HEV.out]; simp [lbEvs, hroot, hbad], hJx'⟩⟩
      have h631 : decide (63 < bt s 0) = false := decide_eq_false h63
      by_cases hge : (s.size : Int) ≤ bt s 0
      · have hge1 : decide ((s.size : Int) ≤ bt s 0) = true := decide_eq_true hge
        have hbad : lbBad s = true := by simp [lbBad, hge]
        gi_wp2
        gi_quiet (fail)
        obtain ⟨fn, tmps, assign, body, hy, hR⟩ := hY pre (⟨#[]⟩, false) (wr.drewN nq) (hJd _ _ _ HJ.out) (by omega)
        gi_wp2
        refine hR.mono ?_
        rintro e W' (⟨rfl, hJ', hk'⟩ | ⟨rfl, hJx'⟩)
        · gi_wp2
          refine bodyPost_ret (results_none rfl _ _ _) rfl ?_
          exact ⟨⟨_, rfl⟩, .inl ⟨_, by rw [HEV.out]; simp [lbEvs, hroot, hbad], hJ'⟩⟩
        · gi_wp2
          refine bodyPost_ret (results_none rfl _ _ _) rfl ?_
          exact ⟨⟨_, rfl⟩, .inr ⟨_, by rw [HEV.out]; simp [lbEvs, hroot, hbad], hJx'⟩⟩
      have hge1 : decide ((s.size : Int) ≤ bt s 0) = false := decide_eq_false hge
      gi_wp2
      gi_quiet (fail)
      gi_wp2
      obtain ⟨fn, tmps, assign, body, hy, hR⟩ := hY pre (lbHead s, true) (wr.drewN (nq + 1)) (hJd _ _ _ HJ.out) (by omega)
      have hnb : 1 ≤ bt s 0 := by have := of_decide_eq_false h631; have := beq_eq_false_iff_ne.1 hb1; omega
      have hbad : lbBad s = false := by simp [lbBad, hz, h63, hge]; omega
      have HBAD := Aside0.mk hbad
      have HREST := Aside0.mk (lbRest_size hbad)
      have HEVS : Aside0 (lbEvs (k + 1) s = (lbHead s, true) :: lbEvs k (lbRest s)) := ⟨by simp [lbEvs, hroot, hbad]⟩
      clear hbad
      have hw1 : IntKind.i64.wrap (bt s 0) = bt s 0 := IntWalk.i64_in _ (by omega)
      have hw2 : IntKind.i64.wrap (1 + bt s 0) = 1 + bt s 0 := IntWalk.i64_in _ (by omega)
      have hsl : ∀ W : World, (Instr.slice 9 (.string s) (some (.int .i64 1)) (some (.int .i64 (1 + bt s 0))) none).run Try.prog W = .ok (.string (lbHead s)) W := fun W => by
        rw [run_slice_string W 9 s .i64 .i64 1 (1 + bt s 0) Try.underlying9 (by omega) (by omega) (by omega)]
        unfold lbHead
        rw [show (1 + bt s 0).toNat = 1 + (bt s 0).toNat by omega]; rfl
      have hsl2 : ∀ W : World, (Instr.slice 9 (.string s) (some (.int .i64 (1 + bt s 0))) none none).run Try.prog W = .ok (.string (lbRest s)) W := fun W => by
        rw [run_slice_string_from_if W 9 s .i64 (1 + bt s 0) Try.underlying9, if_pos (by omega)]
        unfold lbRest
        rw [show (1 + bt s 0).toNat = 1 + (bt s 0).toNat by omega]
      have hR2 := hR.mono (R' := fun e W' => ∃ b : Bool, e = .returned (.bool b) ∧ Aside0 ((b = true ∧ J (pre ++ [(lbHead s, true)]) W' ∧ W'.heap[Bn]? = wr.heap[Bn]?) ∨ (b = false ∧ Jx (pre ++ [(lbHead s, true)]) W'))) (by
        rintro e W' (⟨rfl, h1, h2⟩ | ⟨rfl, h1⟩)
        · exact ⟨true, rfl, ⟨.inl ⟨rfl, h1, h2⟩⟩⟩
        · exact ⟨false, rfl, ⟨.inr ⟨rfl, h1⟩⟩⟩)
      clear hR
      gi_region_with ((refine hR2.mono ?_; rintro e W' ⟨b, rfl, HP⟩))
      all_goals (obtain ⟨rfl, hJ', hk'⟩ | ⟨rfl, hJx'⟩ := HP.out)
      all_goals first
        | (have hx := hJx'
           gi_wp2
           refine bodyPost_ret (results_none rfl _ _ _) rfl ?_
           exact ⟨⟨_, rfl⟩, .inr ⟨_, by rw [HEV.out, HEVS.out]; simp, hx⟩⟩)
        | skip
      all_goals
        have HBW' : W'.heap[Bn]? = some (.cells #[.string s] 9 (0, 0)) := hk'.trans HBW.out
        have hc' : W'.cell? ⟨Bn, 0, none⟩ = some (.string s) := (blk_cell HBW' 0).trans rfl
        have hf' := blk_frozen HBW' 0
        have HBX := Aside0.mk HBW'
        have HJ' := Aside0.mk hJ'
        clear HBW' hJ' hk' HP hR2 hy
        gi_wp2
        gi_region
      all_goals
        gi_wp2
        go_roundw
        case rel =>
          refine ⟨pre ++ [(lbHead s, true)], lbRest s, k, by rw [HEV.out, HEVS.out]; simp, by have := HREST.out; omega, by simp; omega, ⟨?_⟩, ⟨?_⟩⟩
          · exact (blk_put (cs := #[.string s]) HBX.out 0 (.string (lbRest s)) rfl)
          · exact hJd _ _ 1 (hJc _ _ _ HJ'.out)
        case measure =>
          rw [show (W'.setCell { block := Bn, off := 0 } (Value.string (lbRest s))).drew.cell? { block := Bn, off := 0 } = some (.string (lbRest s)) from (blk_cell (blk_put (cs := #[.string s]) HBX.out 0 (.string (lbRest s)) rfl) 0).trans rfl, hc]
          have := HREST.out
          show (lbRest s).size < s.size
          omega
theorem all_in (n : Nat) (s : ByteArray) (w : World) :
    CallsIn Fence.wide n Try.prog 113 #[.string s] w fun e w' => e = .returned (.func (.func 122) #[] #[.pointer (some ⟨w.heap.size, 0, none⟩)]) ∧ w' = w.alloc (.cells #[.string s] 9) := by
  refine callsIn_of_wp Try.func113 rfl trivial ?_ rfl
  simp only [Try.ntmps113, List.size_toArray, List.length_cons, List.length_nil, Nat.reduceAdd, Nat.reduceSub, Array.replicate_succ, Array.replicate_zero, List.push_toArray, List.append_toArray, List.nil_append, List.cons_append]
  gi_wp2
  go_ret
  exact ⟨rfl, rfl⟩
end Go.Proofs.Ytjjbhpbmfpodeaa.X
end
section
namespace Go.Proofs.Ytjjbhpbmfpodeaa.X
open Go.RowKit Go.Shelf Go.Proofs.YtjjbhpbmfpodeaaW.PrintWords Go.Proofs.YtjjbhpbmfpodeaaW.PrintLast Go.Proofs.YtjjbhpbmfpodeaaW.PrintMore
set_option linter.unusedVariables false
set_option linter.unusedSimpArgs false
attribute [local go_sem] Oper.semAt_some

theorem RF.results_cell2 {fn : Func} {p q : Tmp} {w : World} (h : fn.results = #[.cell p 50, .cell q 23]) (tmps : Array Value) {A B : Addr} {u v : Value} (hp : tmps.getD p undef = .pointer (some A)) (hq : tmps.getD q undef = .pointer (some B)) (hA : w.cell? A = some u) (hB : w.cell? B = some v) :
    (results fn tmps).run Try.prog w = .ok (.tuple #[u, v]) w := by
  have e1 : (loadVar 50 A).run Try.prog w = .ok u w := by simp [loadVar, go_sem, hA]
  have e2 : (loadVar 23 B).run Try.prog w = .ok v w := by simp [loadVar, go_sem, hB]
  simp only [Array.getD_eq_getD_getElem?] at hp hq
  simp only [results, h]
  simp [Sem.run_bind, Result.andThen, hp, hq, asAddr, e1, e2]

theorem RF.ownlow {w : World} {b b' : Nat} {e : TypeId} {sz n : Nat} {v : Value} {xs : List Value} (h : w.ownsRow b e sz v n xs) (hb : b' ≤ b) : w.ownsRow b' e sz v n xs := by
  obtain ⟨h1, h2⟩ := h
  refine ⟨h1, ?_⟩
  rcases h2 with h2 | ⟨g, cap, cur, rfl, hg, r⟩
  · exact .inl h2
  · exact .inr ⟨g, cap, cur, rfl, by omega, r⟩

theorem RF.grownBy_drewN (A : World) (m : Nat) : A.grownBy (A.drewN m) none := by
  induction m with
  | zero => exact ⟨rfl, rfl, rfl, Nat.le_refl _, fun _ _ _ => rfl⟩
  | succ m ih => exact ⟨ih.os, ih.tape, ih.output, ih.size, ih.block⟩

/-- What name.Labels tells: none where the name is too long to speak of. -/
def name_Labels.f (s : ByteArray) : Option (List ByteArray × Int) :=
  if s.size ≤ 2000000 then
    some (if (lbEvs (s.size + 1) s).all (·.2) = true then (if 255 < s.size then ([], 3) else ((lbEvs (s.size + 1) s).map (·.1), 0)) else ([], 4))
  else none

theorem info50e : (Try.prog.info? 9).map (fun i => (i.zero, i.size, i.bytes)) = some (some (.string ⟨#[]⟩), 1, 16) := by kernel_rfl

set_option maxHeartbeats 4000000 in
set_option maxRecDepth 100000 in
theorem name_Labels.in_ (n : Nat) (hn : 4 ≤ n) (s : ByteArray) (hs : s.size ≤ 2000000) (w : World) :
    CallsIn Fence.wide n Try.prog 93 #[.string s] w fun e w' => ∃ (v : Value) (ls : List ByteArray) (c : Int), name_Labels.f s = some (ls, c) ∧ e = .returned (.tuple #[v, .int .i64 c]) ∧
      w'.ownsRow w.heap.size 9 1 v ls.length (ls.map Value.string) ∧ Below w.heap.size w w' := by
  have h1 : 1 ≤ n := by omega
  obtain ⟨i0, hi, hz0, hz1, hz2⟩ := info_parts info50e
  refine callsIn_of_wp_marks Try.func93 rfl trivial ?_ rfl
  simp only [Try.ntmps93, List.size_toArray, List.length_cons, List.length_nil, Nat.reduceAdd, Nat.reduceSub, Array.replicate_succ, Array.replicate_zero, List.push_toArray, List.append_toArray, List.nil_append, List.cons_append]
  gi_wp2_with (refine ⟨trivial, ?_⟩; refine (all_in (n - 1) _ _).mono ?_; rintro e w' ⟨rfl, rfl⟩)
  obtain ⟨W0, hW0⟩ : ∃ W0, W0 = (((w.alloc (Obj.cells #[Value.slice none 0 0] 50)).alloc (Obj.cells #[Value.int IntKind.i64 0] 23)).alloc (Obj.cells #[Value.slice none 0 0] 50)).alloc (Obj.cells #[Value.string s] 9) := ⟨_, rfl⟩
  rw [← hW0]
  have hsz : W0.heap.size = w.heap.size + 4 := by rw [hW0]; simp
  have bR : Boxed W0 w.heap.size 50 (.slice none 0 0) := by rw [hW0]; exact (((Boxed.new w 50 _).alloc _).alloc _).alloc _
  have bE : Boxed W0 (w.heap.size + 1) 23 (.int .i64 0) := by
    rw [hW0]; have := Boxed.new (w.alloc (Obj.cells #[Value.slice none 0 0] 50)) 23 (.int .i64 0); rw [World.size_alloc] at this; exact (this.alloc _).alloc _
  have bO : Boxed W0 (w.heap.size + 2) 50 (.slice none 0 0) := by
    rw [hW0]; have := Boxed.new ((w.alloc (Obj.cells #[Value.slice none 0 0] 50)).alloc (Obj.cells #[Value.int IntKind.i64 0] 23)) 50 (.slice none 0 0); simp only [World.size_alloc] at this; exact this.alloc _
  have bN : Boxed W0 (w.heap.size + 3) 9 (.string s) := by
    rw [hW0]; have := Boxed.new (((w.alloc (Obj.cells #[Value.slice none 0 0] 50)).alloc (Obj.cells #[Value.int IntKind.i64 0] 23)).alloc (Obj.cells #[Value.slice none 0 0] 50)) 9 (.string s); simp only [World.size_alloc] at this; exact this
  have hB0 : Below w.heap.size w W0 := by rw [hW0]; exact ((((Below.refl _ w).alloc (Nat.le_refl _) _).alloc (by simp) _).alloc (by simp; omega) _).alloc (by simp; omega) _
  clear hW0
  refine RF.range_cell (F := Fence.wide) rfl h1 (gf := 122) (lb := #[.pointer (some ⟨w.heap.size + 3, 0, none⟩)]) rfl trivial (enters_of Try.func122 (by kernel_rfl) rfl)
    (encs := fun x : ByteArray × Bool => #[.string x.1, .bool x.2]) (Kp := fun A B => B.heap[w.heap.size + 3]? = A.heap[w.heap.size + 3]?) (S := fun ys => ys = lbEvs (s.size + 1) s) (Sp := fun pre => pre <+: lbEvs (s.size + 1) s) (N := s.size + 1)
    (w0 := W0) (w.heap.size + 3) (by omega) ?seq (fun h k => k.trans h) (fun W l o o' hl _ _ _ => World.putObj_heap_other (by omega)) (Below.refl _ _) (fun _ => rfl)
    (fun pre W => (∃ v, Boxed W (w.heap.size + 2) 50 v ∧ W.ownsRow (w.heap.size + 4) 9 1 v pre.length (pre.map fun x => .string x.1) ∧ True) ∧ (Boxed W w.heap.size 50 (.slice none 0 0) ∧ Boxed W (w.heap.size + 1) 23 (.int .i64 0)) ∧ (∀ x ∈ pre, x.2 = true) ∧ w.heap.size + 4 ≤ W.heap.size ∧ Below w.heap.size w W)
    (fun c pre W => c = .ret ∧ (Boxed W w.heap.size 50 (.slice none 0 0) ∧ Boxed W (w.heap.size + 1) 23 (.int .i64 4)) ∧ (∃ x ∈ pre, x.2 = false) ∧ Below w.heap.size w W)
    ?own ?ownx ⟨⟨_, bO, World.ownsRow_nil _ _ _ _, trivial⟩, ⟨bR, bE⟩, by simp, by omega, hB0⟩ ?cell
    (fun x => { tmps := #[.string s, undef, .pointer (some ⟨w.heap.size, 0, none⟩), .pointer (some ⟨w.heap.size + 1, 0, none⟩), .pointer (some ⟨w.heap.size + 2, 0, none⟩), .string x.1, .bool x.2, .string s, .func (.func 122) #[] #[.pointer (some ⟨w.heap.size + 3, 0, none⟩)], .string x.1, .bool x.2, undef, undef, undef, undef, undef, undef, undef, undef, undef, undef], defers := [] })
    ?assign ?body ?done ?stop
  case seq =>
    intro l J Jx W hW hJ hJx hJc hY h0
    refine all1_in (n - 1) (by omega) l (w.heap.size + 3) (s.size + 1) s (by omega) J Jx hJc (fun s' A m hs' => hJ s' A _ none hs' (RF.grownBy_drewN A m) (fun r e => by cases e)) hY W ((hW.block _ (by omega)).trans bN) h0
  case own =>
    have hne : ∀ {W : World} {row : Option Nat} {B t : Nat} {v : Value}, Boxed W B t v → (∀ r, row = some r → W0.heap.size ≤ r ∧ ∃ o : Obj, W.heap[r]? = some o ∧ o.isCells = false) → some B ≠ row := fun hv hr e' => by
      obtain ⟨_, o, ho, hc⟩ := hr _ e'.symm
      rw [show _ = _ from hv] at ho; cases ho; cases hc
    intro pre W W' row hs hg hr
    obtain ⟨h1, ⟨h2, h3⟩, h4, h5, h6⟩ := hs
    refine ⟨Own.from (holdsRow_own (w.heap.size + 4) (w.heap.size + 2) 50 9 1 (fun pre => pre.length) (fun pre : List (ByteArray × Bool) => pre.map fun x => .string x.1) (fun _ _ => True)) W0.heap.size pre W W' row h1 hg hr, ⟨h2.kept hg (hne h2 hr), h3.kept hg (hne h3 hr)⟩, h4, by have := hg.size; omega, h6.grown hg (by omega) (fun r e => ?_)⟩
    have := (hr r e).1; omega
  case ownx =>
    intro c pre W W' row hs hg hr
    have hne : ∀ {B t : Nat} {v : Value}, Boxed W B t v → some B ≠ row := fun hv e' => by
      obtain ⟨_, o, ho, hc⟩ := hr _ e'.symm
      rw [show _ = _ from hv] at ho; cases ho; cases hc
    obtain ⟨h0, ⟨h2, h3⟩, h4, h6⟩ := hs
    exact ⟨h0, ⟨h2.kept hg (hne h2), h3.kept hg (hne h3)⟩, h4, h6.grown hg h6.size (fun r e => by have := (hr r e).1; omega)⟩
  case cell =>
    rintro pre A u ⟨⟨v, h1, hrow, _⟩, ⟨h2, h3⟩, h4, h5, h6⟩
    have hg := grownBy_setCell' A (w.heap.size + 3) u
    refine ⟨⟨v, h1.kept hg (by simp), hrow.kept hg ?_, trivial⟩, ⟨h2.kept hg (by simp), h3.kept hg (by simp)⟩, h4, by have := hg.size; omega, h6.setCell (p := ⟨w.heap.size + 3, 0, none⟩) (by simp) u⟩
    rcases hrow.2 with ⟨rfl, _⟩ | ⟨g, cap, cur, rfl, hb, _, _⟩
    · exact .inl rfl
    · exact .inr (by simp [Value.ownBlock]; omega)
  case assign =>
    intro l x W K hK
    gi_wp2
    exact hK
  case body =>
    rintro l pre ⟨x1, x2⟩ W ⟨⟨v, hv, hrow, -⟩, ⟨hR, hE⟩, hall, hsize, hB⟩ hlt
    cases x2 with
    | false =>
      have hcR := hR.cell
      have hfR := hR.frozen
      have hcE := hE.cell
      have hfE := hE.frozen
      gi_wp2
      have k1 := (KeepsOthers.setCell W ⟨w.heap.size, 0, none⟩ (.slice none 0 0)).trans (KeepsOthers.setCell _ ⟨w.heap.size + 1, 0, none⟩ (.int .i64 4))
      exact ⟨k1.from _, rfl, ⟨(hR.set _).kept (grownBy_setCell' _ _ _) (by simp), (hE.kept (grownBy_setCell' _ _ _) (by simp)).set _⟩, ⟨(x1, false), by simp, rfl⟩, (hB.setCell (p := ⟨w.heap.size, 0, none⟩) (Nat.le_refl _) _).setCell (p := ⟨w.heap.size + 1, 0, none⟩) (by simp) _⟩
    | true =>
      have hc := hv.cell
      gi_wp2_with (gi_at_builtin; refine wpListIn_append_own _ rfl _ _ 50 rfl (w.heap.size + 4) 9 i0 (.string ⟨#[]⟩) 1 16 Try.underlying50 hi hz0 hz1 hz2 rfl (by decide) _ _ _ rfl (hrow.alloc _) ⟨W.heap.size, 0, none⟩ 1 1 [.string x1] rfl rfl (cell_one_new _ _ _) (by simp [Value.oneCell']) (by simp only [maxLen]; omega) (by omega) (by simp; omega) ?_; intro v' w1 hown' hgrow _; obtain ⟨g', cap', rfl⟩ := ownsRow_succ hown'; obtain ⟨hv1, hv2, hr2, hk2, hb2⟩ := hv.appended (by decide) (RF.ownlow (b' := w.heap.size) hrow (by omega)) (by omega) (by omega) (RF.ownlow (b' := w.heap.size) hown' (by omega)) hgrow; have hc1 := hv1.cell; have hf1 := hv1.frozen)
      have hrow2 := hown'.kept (grownBy_setCell' w1 (w.heap.size + 2) (Value.slice (some { block := g', off := 0 }) (pre.length + 1) cap')) (.inr (hv1.not_row (by decide) hown').symm)
      have hlow : ∀ k, k < w.heap.size + 4 → some k ≠ v.ownBlock := fun k hk e => by
        rcases hrow.2 with ⟨rfl, _⟩ | ⟨g, cap, cur, rfl, hb, _, _⟩
        · simp [Value.ownBlock] at e
        · simp [Value.ownBlock] at e; omega
      have hge := hgrow.size
      have hk3 : ∀ k, k < w.heap.size + 4 → w1.heap[k]? = W.heap[k]? := fun k hk => (hgrow.block k (by simp; omega) (hlow k hk)).trans (Below.heap_alloc _ _ _ (by omega))
      refine ⟨hk2.from _, (Below.heap_setCell _ _ _ _ (by simp)).trans (hk3 _ (by omega)), ⟨_, hv2, by simpa using hrow2, trivial⟩, ⟨?_, ?_⟩, ?_, ?_, hB.trans hb2⟩
      · exact (Below.heap_setCell _ _ _ _ (by simp)).trans ((hk3 _ (by omega)).trans hR)
      · exact (Below.heap_setCell _ _ _ _ (by simp)).trans ((hk3 _ (by omega)).trans hE)
      · intro x hx
        rcases List.mem_append.1 hx with h | h
        · exact hall x h
        · simp at h; rw [h]
      · have := (grownBy_setCell' w1 (w.heap.size + 2) (Value.slice (some { block := g', off := 0 }) (pre.length + 1) cap')).size
        simp at hge; omega
  case done =>
    rintro D ys W hD rfl ⟨⟨v, hv, hrow, -⟩, ⟨hR, hE⟩, hall, hsize, hB⟩ hK
    have hc := hv.cell
    have hcR := hR.cell
    have hfR := hR.frozen
    have hcE := hE.cell
    have hfE := hE.frozen
    have hAll : (lbEvs (s.size + 1) s).all (·.2) = true := List.all_eq_true.2 hall
    by_cases hbig : 255 < s.size
    · have hb1 : decide (255 < (s.size : Int)) = true := decide_eq_true (by omega)
      gi_wp2
      have hK2 : ((W.setCell { block := w.heap.size, off := 0 } (Value.slice none 0 0)).setCell { block := w.heap.size + 1, off := 0 } (Value.int IntKind.i64 3)).heap[D]? = some (.deferred (some [])) :=
        (Below.heap_setCell _ _ _ _ (by simp; omega)).trans ((Below.heap_setCell _ _ _ _ (by simp; omega)).trans hK)
      have hR2 : Boxed ((W.setCell { block := w.heap.size, off := 0 } (Value.slice none 0 0)).setCell { block := w.heap.size + 1, off := 0 } (Value.int IntKind.i64 3)) w.heap.size 50 (.slice none 0 0) := (hR.set _).kept (grownBy_setCell' _ _ _) (by simp)
      have hE2 : Boxed ((W.setCell { block := w.heap.size, off := 0 } (Value.slice none 0 0)).setCell { block := w.heap.size + 1, off := 0 } (Value.int IntKind.i64 3)) (w.heap.size + 1) 23 (.int .i64 3) := (hE.kept (grownBy_setCell' _ _ _) (by simp)).set _
      have hB2 := (hB.setCell (p := ⟨w.heap.size, 0, none⟩) (Nat.le_refl _) (Value.slice none 0 0)).setCell (p := ⟨w.heap.size + 1, 0, none⟩) (by simp) (Value.int IntKind.i64 3)
      refine ⟨by simp, .inl ⟨_, _, rfl, run_takeDeferred hK2, ?_⟩⟩
      refine ⟨_, RF.results_cell2 rfl _ rfl rfl (u := .slice none 0 0) (v := .int .i64 3) (Boxed.cell (t := 50) ((World.putObj_heap_other (by omega)).trans hR2)) (Boxed.cell (t := 23) ((World.putObj_heap_other (by omega)).trans hE2)), .slice none 0 0, [], 3, ?_, rfl, World.ownsRow_nil _ _ _ _, hB2.trans (belowK_b (w := w) (Nat.le_refl _) _ D _ _ (by omega) hK2 rfl rfl)⟩
      unfold name_Labels.f
      rw [if_pos hs, if_pos hAll, if_pos hbig]
    · have hb1 : decide (255 < (s.size : Int)) = false := decide_eq_false (by omega)
      obtain ⟨A, cc, rfl⟩ : ∃ A cc, v = .slice A (lbEvs (s.size + 1) s).length cc := by
        rcases hrow.2 with ⟨rfl, h0⟩ | ⟨g, cap, cur, rfl, hb, _, _⟩
        · exact ⟨none, 0, by rw [h0]⟩
        · exact ⟨_, _, rfl⟩
      gi_wp2
      obtain ⟨u, hu⟩ : ∃ u, u = (Value.slice A (lbEvs (s.size + 1) s).length cc) := ⟨_, rfl⟩
      have hlow : ∀ k, k < w.heap.size + 4 → some k ≠ (Value.slice A (lbEvs (s.size + 1) s).length cc).ownBlock := fun k hk e => by
        rcases hrow.2 with ⟨h0, _⟩ | ⟨g, cap, cur, h0, hb, _, _⟩
        · rw [h0] at e; simp [Value.ownBlock] at e
        · rw [h0] at e; simp [Value.ownBlock] at e; omega
      have hrow2 := (hrow.kept (grownBy_setCell' W w.heap.size (Value.slice A (lbEvs (s.size + 1) s).length cc)) (.inr (hlow _ (by omega)).symm)).kept (grownBy_setCell' _ (w.heap.size + 1) (Value.int IntKind.i64 0)) (.inr (hlow _ (by omega)).symm)
      rw [← hu] at hrow2 ⊢
      have hK2 : ((W.setCell { block := w.heap.size, off := 0 } u).setCell { block := w.heap.size + 1, off := 0 } (Value.int IntKind.i64 0)).heap[D]? = some (.deferred (some [])) :=
        (Below.heap_setCell _ _ _ _ (by simp; omega)).trans ((Below.heap_setCell _ _ _ _ (by simp; omega)).trans hK)
      have hR2 : Boxed ((W.setCell { block := w.heap.size, off := 0 } u).setCell { block := w.heap.size + 1, off := 0 } (Value.int IntKind.i64 0)) w.heap.size 50 u := (hR.set _).kept (grownBy_setCell' _ _ _) (by simp)
      have hE2 : Boxed ((W.setCell { block := w.heap.size, off := 0 } u).setCell { block := w.heap.size + 1, off := 0 } (Value.int IntKind.i64 0)) (w.heap.size + 1) 23 (.int .i64 0) := (hE.kept (grownBy_setCell' _ _ _) (by simp)).set _
      have hB2 := (hB.setCell (p := ⟨w.heap.size, 0, none⟩) (Nat.le_refl _) u).setCell (p := ⟨w.heap.size + 1, 0, none⟩) (by simp) (Value.int IntKind.i64 0)
      refine ⟨by simp, .inl ⟨_, _, rfl, run_takeDeferred hK2, ?_⟩⟩
      refine ⟨_, RF.results_cell2 rfl _ rfl rfl (u := u) (v := .int .i64 0) (Boxed.cell (t := 50) ((World.putObj_heap_other (by omega)).trans hR2)) (Boxed.cell (t := 23) ((World.putObj_heap_other (by omega)).trans hE2)), u, (lbEvs (s.size + 1) s).map (·.1), 0, ?_, rfl, ?_, hB2.trans (belowK_b (w := w) (Nat.le_refl _) _ D _ _ (by omega) hK2 rfl rfl)⟩
      · unfold name_Labels.f
        rw [if_pos hs, if_pos hAll, if_neg hbig]
      · have := ownsRow_putObj (RF.ownlow (b' := w.heap.size) hrow2 (by omega)) (.deferred none) hK2 rfl
        simpa [List.map_map, Function.comp_def] using this
  case stop =>
    rintro D c pre W hD hpre ⟨rfl, ⟨hR, hE⟩, ⟨x, hx, hx2⟩, hB⟩ hK
    have hcR := hR.cell
    have hcE := hE.cell
    have hNo : ¬ (lbEvs (s.size + 1) s).all (·.2) = true := fun h => by
      have := List.all_eq_true.1 h x (hpre.subset hx)
      rw [hx2] at this; cases this
    gi_wp2
    refine ⟨by simp, .inl ⟨_, _, rfl, run_takeDeferred hK, ?_⟩⟩
    refine ⟨_, RF.results_cell2 (w := W.putObj D (.deferred none)) rfl _ rfl rfl (u := .slice none 0 0) (v := .int .i64 4) (Boxed.cell (t := 50) ((World.putObj_heap_other (by omega)).trans hR)) (Boxed.cell (t := 23) ((World.putObj_heap_other (by omega)).trans hE)), .slice none 0 0, [], 4, ?_, rfl, World.ownsRow_nil _ _ _ _, hB.trans (belowK_b (w := w) (Nat.le_refl _) _ D _ _ (by omega) hK rfl rfl)⟩
    unfold name_Labels.f
    rw [if_pos hs, if_neg hNo]

theorem name_Labels.calls (s : ByteArray) (ls : List ByteArray) (c : Int) (w : World) (h : name_Labels.f s = some (ls, c)) :
    Calls Try.prog 93 #[.string s] w fun e w' => ∃ v0_ : Value, e = .returned (.tuple #[v0_, .int .i64 c]) ∧ Kd.R Kd.string 9 w' w.heap.size (fun _ => True) v0_ ls ∧ Below w.heap.size w w' := by
  have hs : s.size ≤ 2000000 := by
    unfold name_Labels.f at h
    by_cases hs : s.size ≤ 2000000
    · exact hs
    · rw [if_neg hs] at h; cases h
  refine callsIn_wide.1 ((name_Labels.in_ 4 (by omega) s hs w).mono ?_)
  rintro e w' ⟨v, ls', c', hf, rfl, ho, hb⟩
  rw [h] at hf
  injection hf with hf
  cases hf
  exact ⟨v, rfl, Kd.R_of_own (by simpa [encs] using ho) (fun _ _ => trivial), hb⟩
end Go.Proofs.Ytjjbhpbmfpodeaa.X
end
section
namespace Go.Proofs.Ytjjbhpbmfpodeaa.X
open Go.RowKit Go.Proofs.YtjjbhpbmfpodeaaW.PrintWords Go.Proofs.YtjjbhpbmfpodeaaW.PrintLast Go.Proofs.YtjjbhpbmfpodeaaW.PrintMore
attribute [local go_sem] max2_int min2_int max_two min_two max_three min_three max_four min_four   -- for this text's walks alone
set_option linter.unusedVariables false
set_option linter.unusedSimpArgs false

/-! ### name_Check: function 48 -/
def name_Check.f (a0 : ByteArray) : Option (Int) := (name_Labels.f a0).bind fun bt101 => (some bt101.2)
set_option maxHeartbeats 8000000 in
set_option maxRecDepth 100000 in
theorem name_Check.calls (a0 : ByteArray) (r : Int) (w : World) (h : name_Check.f a0 = some r) :
    Calls Try.prog 48 #[.string a0] w fun e w' => e = .returned (.int .i64 r) ∧ Below w.heap.size w w' := by
  have HB := Aside0.mk (Below.refl w.heap.size w)
  have H : ((name_Labels.f a0).bind fun bt101 => (some bt101.2)) = some r := h
  clear h
  replace H := Option.bind_eq_some_iff.mp H
  obtain ⟨⟨t101, t102⟩, A20, H⟩ := H
  replace H : (some t102) = some r := H
  have A2 := Aside0.mk A20
  clear A20
  obtain rfl := Option.some.inj H
  go_enter Try.func48, Try.ntmps48
  go_wp2_with (first | ((with_reducible refine gate_callee (f := 93) rfl ?_); refine goesL_ (some 7) rfl rfl Try.func93 (by kernel_rfl) rfl #[.string a0] rfl (by (try simp only [List.map_toArray, List.map_cons, List.map_nil]); first | done | rfl | (simp only [List.length_drop, List.length_take]; rfl)) ?_; (with_reducible refine (name_Labels.calls a0 t101 t102 _ A2.out).mono ?_); rintro e w3 ⟨v103, rfl, ho0, hb⟩; refine ⟨_, rfl, ?_⟩; have n0_ := Aside0.mk (Kd.R_lower ho0 (below_size (by repeat (first | (with_reducible first | exact HB.out | apply below_alloc | apply pw_below_drewN | apply below_drew1) | exact HB.out)))); have n1_ := Aside0.mk (below_step (by repeat (first | (with_reducible first | exact HB.out | apply below_alloc | apply pw_below_drewN | apply below_drew1) | exact HB.out)) hb); clear HB; have HO104 := n0_; have HB := n1_; clear n0_ n1_; (try clear hb); (try clear hb2); (try clear hk); (try clear hi); (try clear ho0)))
  go_ret
  exact ⟨by first | rfl | (simp [errW_none, errW_some] <;> rfl) | (simp [*, errW_none, errW_some] <;> rfl), by repeat (first | (with_reducible first | exact HB.out | apply below_alloc | apply pw_below_drewN | apply below_drew1) | exact HB.out)⟩

end Go.Proofs.Ytjjbhpbmfpodeaa.X
end
section
namespace Go.Proofs.Ytjjbhpbmfpodeaa.PB
open Go.RowKit Go.Proofs.Ytjjbhpbmfpodeaa.X Go.Proofs.YtjjbhpbmfpodeaaW.PrintWords Go.Proofs.YtjjbhpbmfpodeaaW.PrintLast
set_option linter.unusedVariables false
set_option linter.unusedSimpArgs false

theorem and14 {n : Int} (h0 : 0 ≤ n) (h1 : n < 9223372036854775808) : Go.bits .and .i64 n 16383 = n % 16384 := by
  obtain ⟨m, rfl⟩ := Int.eq_ofNat_of_zero_le h0
  unfold Go.bits
  simp
  show IntKind.i64.wrap ((m % 2 ^ 64 &&& 16383 : Nat) : Int) = _
  rw [Nat.mod_eq_of_lt (by omega), show (16383 : Nat) = 2 ^ 14 - 1 by rfl, Nat.and_two_pow_sub_one_eq_mod, IntWalk.i64_in _ (by omega)]
  omega

theorem bytesB_mem {l : List Int} (h : bytesB l = true) {x : Int} (hx : x ∈ l) : 0 ≤ x ∧ x ≤ 255 := by
  simp only [bytesB, List.all_eq_true, decide_eq_true_eq] at h
  exact h x hx
theorem rd_byte {l : List Int} (h : bytesB l = true) (i : Int) : 0 ≤ rd l i ∧ rd l i ≤ 255 := by
  unfold rd
  rw [List.getD_eq_getElem?_getD]
  by_cases hi : i.toNat < l.length
  · rw [List.getElem?_eq_getElem hi]; exact bytesB_mem h (List.getElem_mem hi)
  · rw [List.getElem?_eq_none (by omega)]; simp
theorem str_bytes {l : List Int} (h : bytesB l = true) : bytesOf (strOfNums l) = l := by
  unfold bytesOf
  rw [strOfNums_data, List.map_map]
  conv => rhs; rw [← List.map_id l]
  refine List.map_congr_left fun x hx => ?_
  have := bytesB_mem h hx
  simp only [Function.comp, id]
  have e : UInt8.toNat (UInt8.ofNat x.toNat) = x.toNat := by rw [UInt8.toNat_ofNat']; omega
  rw [e]; omega
theorem bt_str {l : List Int} (h : bytesB l = true) (i : Int) : bt (strOfNums l) i = rd l i := by
  rw [← rd_bytesOf, str_bytes h]
theorem str_inj {l r : List Int} (hl : bytesB l = true) (hr : bytesB r = true) (h : strOfNums l = strOfNums r) : l = r := by
  rw [← str_bytes hl, ← str_bytes hr, h]
theorem str_extract (l : List Int) (a b : Nat) : (strOfNums l).extract a b = strOfNums ((l.drop a).take (b - a)) := by
  apply ByteArray.ext
  rw [ByteArray.data_extract]
  unfold strOfNums
  simp [List.map_take, List.map_drop]

/-- The bytes of whole labels. -/
inductive Lab : List Int → Prop
  | nil : Lab []
  | cons (c : Int) (x r : List Int) : 1 ≤ c → c ≤ 63 → (x.length : Int) = c → Lab r → Lab (c :: (x ++ r))

theorem Lab.append {a b : List Int} (ha : Lab a) (hb : Lab b) : Lab (a ++ b) := by
  induction ha with
  | nil => exact hb
  | cons c x r h1 h2 h3 _ ih => rw [List.cons_append, List.append_assoc]; exact .cons c x _ h1 h2 h3 ih
theorem Lab.one {c : Int} {x : List Int} (h1 : 1 ≤ c) (h2 : c ≤ 63) (h3 : (x.length : Int) = c) : Lab (c :: x) := by
  have := Lab.cons c x [] h1 h2 h3 .nil
  rwa [List.append_nil] at this
theorem Lab.ne_one {a : List Int} (ha : Lab a) : a.length ≠ 1 := by
  cases ha with
  | nil => simp
  | cons c x r h1 h2 h3 _ => simp only [List.length_cons, List.length_append]; omega

theorem lbRoot_str {l : List Int} (h : bytesB l = true) : lbRoot (strOfNums l) = true ↔ l = [0] := by
  unfold lbRoot
  rw [beq_iff_eq, ByteArray.toList_eq, strOfNums_data]
  constructor
  · intro e
    refine str_inj h (by decide) ?_
    apply ByteArray.ext
    apply Array.toList_inj.1
    rw [strOfNums_data]
    exact e
  · rintro rfl; rfl

theorem evs_lab {a : List Int} (ha : Lab a) : ∀ (k : Nat), bytesB a = true → (lbEvs k (strOfNums (a ++ [0]))).all (·.2) = true := by
  induction ha with
  | nil =>
    intro k _
    cases k with
    | zero => rfl
    | succ k => rw [List.nil_append, lbEvs, if_pos ((lbRoot_str (by decide)).2 rfl)]; rfl
  | cons c x r h1 h2 h3 _ ih =>
    intro k hb
    cases k with
    | zero => rfl
    | succ k =>
      have hb2 : bytesB ((c :: (x ++ r)) ++ [0]) = true := bytesB_append.2 ⟨hb, by decide⟩
      have hbr : bytesB r = true := by
        have e : c :: (x ++ r) = (c :: x) ++ r := rfl
        rw [e] at hb; exact (bytesB_append.1 hb).2
      have hbt : bt (strOfNums ((c :: (x ++ r)) ++ [0])) 0 = c := by rw [bt_str hb2]; rfl
      have hsz : (strOfNums ((c :: (x ++ r)) ++ [0])).size = x.length + r.length + 2 := by rw [strOfNums_size]; simp; omega
      rw [lbEvs, if_neg (fun h => by have := congrArg List.length ((lbRoot_str hb2).1 h); simp at this)]
      have hnb : ¬ lbBad (strOfNums ((c :: (x ++ r)) ++ [0])) = true := by
        unfold lbBad
        rw [hbt, hsz]
        simp
        omega
      rw [if_neg hnb, List.all_cons]
      have hrest : lbRest (strOfNums ((c :: (x ++ r)) ++ [0])) = strOfNums (r ++ [0]) := by
        unfold lbRest
        rw [hbt, str_extract, hsz]
        congr 1
        have e : 1 + c.toNat = (c :: x).length := by simp; omega
        have e2 : (c :: (x ++ r)) ++ [0] = (c :: x) ++ (r ++ [0]) := by simp
        rw [e2, e, List.drop_left, List.take_of_length_le (by simp; omega)]
      rw [hrest, ih k hbr]
      rfl

/-- Bytes that are whole labels and the root's are a name. -/
theorem labels_ok {a : List Int} (ha : Lab a) (hb : bytesB a = true) (hl : a.length ≤ 254) : ∃ ls, name_Labels.f (strOfNums (a ++ [0])) = some (ls, 0) := by
  refine ⟨(lbEvs ((strOfNums (a ++ [0])).size + 1) (strOfNums (a ++ [0]))).map (·.1), ?_⟩
  unfold name_Labels.f
  have hsz : (strOfNums (a ++ [0])).size = a.length + 1 := by rw [strOfNums_size]; simp
  rw [if_pos (by omega), if_pos (evs_lab ha _ hb), if_neg (by omega)]
theorem check_ok {a : List Int} (ha : Lab a) (hb : bytesB a = true) (hl : a.length ≤ 254) : name_Check.f (strOfNums (a ++ [0])) = some 0 := by
  obtain ⟨ls, h⟩ := labels_ok ha hb hl
  unfold name_Check.f
  rw [h]; rfl
end Go.Proofs.Ytjjbhpbmfpodeaa.PB
end
section
namespace Go.Proofs.Ytjjbhpbmfpodeaa.PB
open Go.RowKit Go.Proofs.Ytjjbhpbmfpodeaa.X Go.Proofs.YtjjbhpbmfpodeaaW.PrintWords Go.Proofs.YtjjbhpbmfpodeaaW.PrintLast
set_option linter.unusedVariables false
set_option linter.unusedSimpArgs false

theorem str_of_bytes (s : ByteArray) : strOfNums (bytesOf s) = s := by
  apply ByteArray.ext
  apply Array.toList_inj.1
  rw [strOfNums_data]
  unfold bytesOf
  rw [List.map_map]
  conv => rhs; rw [← List.map_id s.data.toList]
  refine List.map_congr_left fun x _ => ?_
  simp
theorem bytesB_bytesOf (s : ByteArray) : bytesB (bytesOf s) = true := by
  simp only [bytesB, bytesOf, List.all_eq_true, decide_eq_true_eq, List.mem_map]
  rintro _ ⟨x, _, rfl⟩
  have := x.toNat_lt
  omega
theorem evs_form : ∀ (k : Nat) (l : List Int), bytesB l = true → l.length < k → (lbEvs k (strOfNums l)).all (·.2) = true → ∃ a, Lab a ∧ l = a ++ [0]
  | 0, l, _, h, _ => by omega
  | k + 1, l, hb, hk, h => by
    rw [lbEvs] at h
    by_cases hr : lbRoot (strOfNums l) = true
    · exact ⟨[], .nil, (lbRoot_str hb).1 hr⟩
    · rw [if_neg hr] at h
      by_cases hbad : lbBad (strOfNums l) = true
      · rw [if_pos hbad] at h; simp at h
      · rw [if_neg hbad] at h
        have hbf : lbBad (strOfNums l) = false := by simpa using hbad
        obtain ⟨h1, h2, h3, h4⟩ := lbRest_size hbf
        rw [bt_str hb, strOfNums_size] at h2
        rw [bt_str hb] at h3 h4
        simp only [List.all_cons, Bool.and_eq_true] at h
        have e : lbRest (strOfNums l) = strOfNums (l.drop (1 + (rd l 0).toNat)) := by
          unfold lbRest
          rw [bt_str hb, str_extract, strOfNums_size, List.take_of_length_le (by simp)]
        rw [e] at h h2
        rw [strOfNums_size] at h2
        obtain ⟨a, ha, hl⟩ := evs_form k _ (bytesB_drop _ hb) (by omega) h.2
        cases l with
        | nil => simp at h2
        | cons c r =>
          have hc : rd (c :: r) 0 = c := rfl
          rw [hc] at hl h3 h4 h2
          have e1 : (1 + c.toNat) = c.toNat + 1 := by omega
          rw [e1, List.drop_succ_cons] at hl h2
          refine ⟨c :: (r.take c.toNat ++ a), .cons c _ a (by omega) (by omega) ?_ ha, ?_⟩
          · rw [List.length_take]; simp only [List.length_cons, List.length_drop] at h2; omega
          · rw [List.cons_append, List.append_assoc, ← hl, List.take_append_drop]

/-- A name that may be is whole labels and the root's. -/
theorem check_form {s : ByteArray} (h : name_Check.f s = some 0) : ∃ a, Lab a ∧ bytesB a = true ∧ a.length ≤ 254 ∧ s = strOfNums (a ++ [0]) := by
  unfold name_Check.f name_Labels.f at h
  by_cases h0 : s.size ≤ 2000000
  · rw [if_pos h0] at h
    by_cases h1 : (lbEvs (s.size + 1) s).all (·.2) = true
    · rw [if_pos h1] at h
      by_cases h2 : 255 < s.size
      · rw [if_pos h2] at h; simp at h
      · rw [← str_of_bytes s] at h1
        have hb := bytesB_bytesOf s
        obtain ⟨a, ha, hl⟩ := evs_form _ _ hb (by rw [strOfNums_size]; omega) h1
        have hlen := congrArg List.length hl
        rw [bytesOf_length] at hlen
        simp at hlen
        refine ⟨a, ha, ?_, by omega, ?_⟩
        · rw [hl] at hb; exact (bytesB_append.1 hb).1
        · rw [← hl, str_of_bytes]
    · rw [if_neg h1] at h; simp at h
  · rw [if_neg h0] at h; simp at h

/-- Where a tail stood first. -/
def lookL (L : List (ByteArray × Int)) (s : ByteArray) : Option Int := (L.find? (fun p => decide (p.1 = s))).map (·.2)
theorem lookL_none {L : List (ByteArray × Int)} {s : ByteArray} : lookL L s = none ↔ s ∉ L.map (·.1) := by
  unfold lookL
  rw [Option.map_eq_none_iff, List.find?_eq_none]
  simp
  constructor
  · intro h a ha; exact h _ _ ha rfl
  · rintro h a b hab rfl; exact h b hab
/-- The two bytes that point at a place. -/
def ptr (k : Int) : List Int := [192 + k / 256, k % 256]

/-- A packer's tails: each once, each at a place that a pointer tells. -/
structure Tails (L : List (ByteArray × Int)) : Prop where
  once : (L.map (·.1)).Nodup
  low : ∀ x ∈ L, 0 ≤ x.2 ∧ x.2 < 16384
  size : ∀ x ∈ L, x.1.size ≤ 255
theorem Tails.nil : Tails [] := ⟨by simp, by simp, by simp⟩
theorem Tails.append {L M : List (ByteArray × Int)} (hL : Tails L) (hM : Tails M) (hd : ∀ x ∈ M, lookL L x.1 = none) : Tails (L ++ M) :=
  ⟨by
    rw [List.map_append, List.nodup_append]
    refine ⟨hL.once, hM.once, ?_⟩
    rintro _ ha _ hb rfl
    obtain ⟨x, hx, hxa⟩ := List.mem_map.1 hb
    have := lookL_none.1 (hd x hx)
    rw [hxa] at this
    exact this ha, fun x hx => (List.mem_append.1 hx).elim (hL.low x) (hM.low x), fun x hx => (List.mem_append.1 hx).elim (hL.size x) (hM.size x)⟩

/-- What holds of the part, the tail and the new tails on the way. -/
structure PkWay (L : List (ByteArray × Int)) (p q : List Int) (fr : List (ByteArray × Int)) : Prop where
  lab : Lab q
  bytes : bytesB (p ++ q) = true
  len : p.length + q.length ≤ 254
  few : fr.length ≤ p.length
  tails : Tails fr
  long : ∀ x ∈ fr, q.length + 1 < x.1.size
  new : ∀ x ∈ fr, lookL L x.1 = none

theorem PkWay.fresh {L : List (ByteArray × Int)} {p q : List Int} {fr : List (ByteArray × Int)} (h : PkWay L p q fr) : lookL fr (strOfNums (q ++ [0])) = none := by
  rw [lookL_none]
  intro hm
  obtain ⟨x, hx, e⟩ := List.mem_map.1 hm
  have := h.long x hx
  rw [e, strOfNums_size] at this
  simp at this
theorem PkWay.step {L : List (ByteArray × Int)} {p r : List Int} {c : Int} {fr : List (ByteArray × Int)} (h : PkWay L p (c :: r) fr) {a : Int} (ha : 0 ≤ a) (hn : lookL L (strOfNums (c :: r ++ [0])) = none) :
    1 ≤ c ∧ c ≤ 63 ∧ c.toNat ≤ r.length ∧ PkWay L (p ++ c :: r.take c.toNat) (r.drop c.toNat) (if a + p.length < 16384 then fr ++ [(strOfNums (c :: r ++ [0]), a + p.length)] else fr) := by
  have hl := h.lab
  have hlen := h.len
  simp only [List.length_cons] at hlen
  cases hl with
  | cons c x r' h1 h2 h3 h4 =>
    have hc : c.toNat = x.length := by omega
    have e1 : (x ++ r').take c.toNat = x := by rw [hc, List.take_left]
    have e2 : (x ++ r').drop c.toNat = r' := by rw [hc, List.drop_left]
    refine ⟨h1, h2, by rw [List.length_append]; omega, ?_⟩
    rw [e1, e2]
    have hfr := h.fresh
    refine ⟨h4, ?_, ?_, ?_, ?_, ?_, ?_⟩
    · have := h.bytes; simpa using this
    · simp only [List.length_append, List.length_cons] at hlen ⊢; omega
    · have := h.few; split <;> simp <;> omega
    · split
      · rename_i hlow
        refine h.tails.append ⟨by simp, by simp; omega, ?_⟩ ?_
        · intro y hy
          simp only [List.mem_singleton] at hy
          subst hy
          rw [strOfNums_size]; simp only [List.length_append, List.length_cons, List.length_nil] at hlen ⊢; omega
        · intro y hy
          simp only [List.mem_singleton] at hy
          subst hy
          exact hfr
      · exact h.tails
    · have hlong : ∀ y ∈ fr, r'.length + 1 < y.1.size := fun y hy => by have := h.long y hy; simp only [List.length_append, List.length_cons] at this; omega
      split
      · intro y hy
        rcases List.mem_append.1 hy with hy | hy
        · exact hlong y hy
        · simp only [List.mem_singleton] at hy
          subst hy
          rw [strOfNums_size]; simp only [List.length_append, List.length_cons, List.length_nil]; omega
      · exact hlong
    · split
      · intro y hy
        rcases List.mem_append.1 hy with hy | hy
        · exact h.new y hy
        · simp only [List.mem_singleton] at hy
          subst hy
          exact hn
      · exact h.new
end Go.Proofs.Ytjjbhpbmfpodeaa.PB
end
section
namespace Go.Proofs.Ytjjbhpbmfpodeaa.X
open Go.RowKit Go.Proofs.Ytjjbhpbmfpodeaa.PB Go.Proofs.YtjjbhpbmfpodeaaW.PrintWords Go.Proofs.YtjjbhpbmfpodeaaW.PrintLast Go.Proofs.YtjjbhpbmfpodeaaW.PrintMore
set_option linter.unusedVariables false
set_option linter.unusedSimpArgs false
attribute [local go_sem] Oper.semAt_some

/-- How long the name is that some bytes begin with, from a place on. -/
def firstL : Nat → ByteArray → Int → Option Int
  | 0, _, _ => none
  | k + 1, s, i => if i < (s.size : Int) ∧ i < 255 then (if bt s i = 0 then (if name_Check.f (s.extract 0 (i + 1).toNat) = some 0 then some (i + 1) else none) else firstL k s (i + (1 + bt s i))) else none
theorem firstL_stop {s : ByteArray} {i : Int} (k : Nat) (h : ¬ (i < (s.size : Int) ∧ i < 255)) : firstL k s i = none := by
  cases k with
  | zero => rfl
  | succ k => rw [firstL, if_neg h]
def firstN (s : ByteArray) : Option Int := firstL 256 s 0
/-- The panic's value. -/
def unfit : PanicEntry := { v := .iface 148 (.agg #[]), recovered := false }
/-- How first ends. -/
def FirstEnd (s : ByteArray) : Option Int → Ending → Prop
  | some m, e => e = .returned (.string (s.extract 0 m.toNat))
  | none, e => e = .panicked [unfit]
theorem check_ok_some {s : ByteArray} (hs : s.size ≤ 2000000) : ∃ c, name_Check.f s = some c := by
  unfold name_Check.f name_Labels.f
  rw [if_pos hs]
  exact ⟨_, rfl⟩

set_option maxHeartbeats 8000000 in
set_option maxRecDepth 100000 in
theorem rdata_first.in_ (n : Nat) (hn : 3 ≤ n) (s : ByteArray) (hs : s.size ≤ 100000000000) (R : Option Int) (hR : firstN s = R) (w : World) :
    CallsIn Fence.wide n Try.prog 117 #[.string s] w fun e w' => FirstEnd s R e ∧ Below w.heap.size w w' := by
  have HR := Aside0.mk hR
  have HSZ := Aside0.mk hs
  clear hR hs
  refine callsIn_of_wp Try.func117 rfl trivial ?_ rfl
  simp only [Try.ntmps117, List.size_toArray, List.length_cons, List.length_nil, Nat.reduceAdd, Nat.reduceSub, Array.replicate_succ, Array.replicate_zero, List.push_toArray, List.append_toArray, List.nil_append, List.cons_append]
  gi_wp2
  gi_loopw [3] (fun p wr => ∃ (i : Int) (k : Nat), p = .int .i64 i ∧ 0 ≤ i ∧ Aside0 (firstL k s i = R ∧ 255 ≤ i + k) ∧ Aside0 (Below w.heap.size w wr)) (fun p _ => match p with | .int _ i => (300 - i).toNat | _ => 0)
  case atStart => exact ⟨0, 256, rfl, by omega, ⟨HR.out, by omega⟩, ⟨Below.refl _ _⟩⟩
  case round =>
    obtain ⟨i, k, rfl, h0, HK, HB⟩ := hrel
    have HI := Aside0.mk h0
    by_cases h1 : i < (s.size : Int)
    · have d1 : decide (i < (s.size : Int)) = true := decide_eq_true h1
      by_cases h2 : i < 255
      · have d2 : decide (i < 255) = true := decide_eq_true h2
        have hw1 : IntKind.i64.wrap (i + 1) = i + 1 := IntWalk.i64_in _ (by omega)
        have hix := str_ix s i h0 h1
        have hb := bt_range s i
        obtain ⟨c, hc⟩ : ∃ c, c = bt s i := ⟨_, rfl⟩
        rw [← hc] at hix hb
        obtain ⟨k', rfl⟩ : ∃ k', k = k' + 1 := ⟨k - 1, by have := HK.out.2; omega⟩
        have hk := HK.out.1
        rw [firstL, if_pos ⟨h1, h2⟩, ← hc] at hk
        by_cases hz : c = 0
        · subst hz
          rw [if_pos rfl] at hk
          have hto := str_to s (i + 1) (by omega) (by omega)
          obtain ⟨T, hT⟩ : ∃ T, T = s.extract 0 (i + 1).toNat := ⟨_, rfl⟩
          rw [← hT] at hto hk
          have hts : T.size ≤ 2000000 := by rw [hT, ByteArray.size_extract]; omega
          obtain ⟨e, he⟩ := check_ok_some hts
          have HE := Aside0.mk he
          rw [he] at hk
          have HTT := Aside0.mk hT
          have h255 := Aside0.mk h2
          by_cases hez : e = 0
          · subst hez
            rw [if_pos rfl] at hk
            have HKK := Aside0.mk hk
            clear hk he hT hts hb hc h1 h2 h0
            gi_wp2_with (first
              | (first | refine ⟨trivial, fun _ => by omega, ?_⟩ | refine ⟨trivial, ?_⟩); refine (callsIn_wide.2 (name_Check.calls T 0 _ HE.out)).mono ?_; rintro e w5 ⟨rfl, hb5⟩; have HB5 := Aside0.mk (HB.out.trans (hb5.mono HB.out.size)); clear hb5)
            go_ret
            refine ⟨?_, HB5.out⟩
            rw [← HKK.out, HTT.out]; rfl
          · have hez2 : (e == 0) = false := beq_eq_false_iff_ne.2 hez
            rw [if_neg (fun h => hez (by injection h))] at hk
            have HKK := Aside0.mk hk
            clear hk he hT hts hb hc h1 h2 h0 hez
            gi_wp2_with (first
              | (first | refine ⟨trivial, fun _ => by omega, ?_⟩ | refine ⟨trivial, ?_⟩); refine (callsIn_wide.2 (name_Check.calls T e _ HE.out)).mono ?_; rintro e w5 ⟨rfl, hb5⟩; have HB5 := Aside0.mk (HB.out.trans (hb5.mono HB.out.size)); clear hb5)
            rw [← HKK.out]
            exact ⟨rfl, rfl, HB5.out⟩
        · have hz2 : (c == 0) = false := beq_eq_false_iff_ne.2 hz
          rw [if_neg hz] at hk
          have hw0 : IntKind.i64.wrap c = c := IntWalk.i64_in _ (by omega)
          have hw2 : IntKind.i64.wrap (1 + c) = 1 + c := IntWalk.i64_in _ (by omega)
          have hw3 : IntKind.i64.wrap (i + (1 + c)) = i + (1 + c) := IntWalk.i64_in _ (by omega)
          have HKK : Aside0 (firstL k' s (i + (1 + c)) = R ∧ 255 ≤ i + (1 + c) + (k' : Int)) := ⟨hk, by have := HK.out.2; omega⟩
          have HCC : Aside0 (1 ≤ c) := ⟨by omega⟩
          have h255 := Aside0.mk h2
          clear hk hb hc h1 h2 h0 hz hw1
          gi_wp2
          exact ⟨⟨i + (1 + c), k', rfl, by have := HI.out; have := HCC.out; omega, HKK, HB⟩, by show (300 - (i + (1 + c))).toNat < (300 - i).toNat; have := HCC.out; have := h255.out; omega⟩
      · have d2 : decide (i < 255) = false := decide_eq_false h2
        have hk : R = none := HK.out.1.symm.trans (firstL_stop k (fun h => h2 h.2))
        have HKK := Aside0.mk hk
        clear hk h0 h1 h2
        gi_wp2
        rw [HKK.out]
        exact ⟨rfl, rfl, HB.out⟩
    · have d1 : decide (i < (s.size : Int)) = false := decide_eq_false h1
      have hk : R = none := HK.out.1.symm.trans (firstL_stop k (fun h => h1 h.1))
      have HKK := Aside0.mk hk
      clear hk h0 h1
      gi_wp2
      rw [HKK.out]
      exact ⟨rfl, rfl, HB.out⟩
end Go.Proofs.Ytjjbhpbmfpodeaa.X
end
section
namespace Go.Proofs.Ytjjbhpbmfpodeaa.X
open Go.RowKit Go.Proofs.YtjjbhpbmfpodeaaW.PrintWords Go.Proofs.YtjjbhpbmfpodeaaW.PrintLast Go.Proofs.YtjjbhpbmfpodeaaW.PrintMore
set_option linter.unusedVariables false
set_option linter.unusedSimpArgs false
attribute [local go_sem] Oper.semAt_some

/-- Are bytes, from a place on, texts up to the end? -/
def textsL : Nat → ByteArray → Int → Bool
  | 0, _, _ => false
  | k + 1, s, i => if i < (s.size : Int) then (if (s.size : Int) < i + (1 + bt s i) then false else textsL k s (i + (1 + bt s i))) else decide (s.size ≠ 0)
def textsB (s : ByteArray) : Bool := textsL (s.size + 1) s 0

set_option maxHeartbeats 8000000 in
set_option maxRecDepth 100000 in
theorem rdata_texts.in_ (n : Nat) (hn : 1 ≤ n) (s : ByteArray) (hs : s.size ≤ 100000000000) (R : Bool) (hR : textsB s = R) (w : World) :
    CallsIn Fence.wide n Try.prog 116 #[.string s] w fun e w' => e = .returned (.bool R) ∧ Below w.heap.size w w' := by
  have HR := Aside0.mk hR
  have HSZ := Aside0.mk hs
  have HE : Aside0 ((!s.toList.isEmpty) = decide (s.size ≠ 0)) := ⟨by
    rw [ByteArray.toList_eq]
    have h : s.data.toList.length = s.size := rfl
    cases hl : s.data.toList with
    | nil => rw [hl] at h; simp at h; simp [← h]
    | cons x r => rw [hl] at h; simp at h; simp [← h]⟩
  clear hR hs
  refine callsIn_of_wp Try.func116 rfl trivial ?_ rfl
  simp only [Try.ntmps116, List.size_toArray, List.length_cons, List.length_nil, Nat.reduceAdd, Nat.reduceSub, Array.replicate_succ, Array.replicate_zero, List.push_toArray, List.append_toArray, List.nil_append, List.cons_append]
  gi_wp2
  gi_loopw [3] (fun p wr => ∃ (i : Int) (k : Nat), p = .int .i64 i ∧ 0 ≤ i ∧ i ≤ (s.size : Int) ∧ Aside0 (textsL k s i = R ∧ (s.size : Int) < i + k) ∧ Aside0 (Below w.heap.size w wr)) (fun p _ => match p with | .int _ i => ((s.size : Int) - i).toNat | _ => 0)
  case atStart => exact ⟨0, s.size + 1, rfl, by omega, by omega, ⟨HR.out, by omega⟩, ⟨Below.refl _ _⟩⟩
  case round =>
    obtain ⟨i, k, rfl, h0, h00, HK, HB⟩ := hrel
    obtain ⟨k', rfl⟩ : ∃ k', k = k' + 1 := ⟨k - 1, by have := HK.out.2; omega⟩
    have hk := HK.out.1
    have HI := Aside0.mk h0
    by_cases h1 : i < (s.size : Int)
    · have d1 : decide (i < (s.size : Int)) = true := decide_eq_true h1
      have hix := str_ix s i h0 h1
      have hb := bt_range s i
      rw [textsL, if_pos h1] at hk
      obtain ⟨c, hc⟩ : ∃ c, c = bt s i := ⟨_, rfl⟩
      rw [← hc] at hix hb hk
      have hw0 : IntKind.i64.wrap c = c := IntWalk.i64_in _ (by omega)
      have hw2 : IntKind.i64.wrap (1 + c) = 1 + c := IntWalk.i64_in _ (by omega)
      have hw3 : IntKind.i64.wrap (i + (1 + c)) = i + (1 + c) := IntWalk.i64_in _ (by have := HSZ.out; omega)
      by_cases h2 : (s.size : Int) < i + (1 + c)
      · have d2 : decide ((s.size : Int) < i + (1 + c)) = true := decide_eq_true h2
        rw [if_pos h2] at hk
        have HKK := Aside0.mk hk
        clear hk hb hc h1 h2 h0 h00
        gi_wp2
        go_ret
        exact ⟨by rw [← HKK.out]; rfl, HB.out⟩
      · have d2 : decide ((s.size : Int) < i + (1 + c)) = false := decide_eq_false h2
        rw [if_neg h2] at hk
        have HKK := Aside0.mk hk
        have HCC : Aside0 (0 ≤ c ∧ i + (1 + c) ≤ (s.size : Int)) := ⟨by omega⟩
        clear hk hb hc h1 h2 h0 h00
        gi_wp2
        exact ⟨⟨i + (1 + c), k', rfl, by have := HI.out; have := HCC.out; omega, HCC.out.2, ⟨HKK.out, by have := HK.out.2; have := HCC.out; omega⟩, HB⟩, by show ((s.size : Int) - (i + (1 + c))).toNat < ((s.size : Int) - i).toNat; have := HCC.out; omega⟩
    · have d1 : decide (i < (s.size : Int)) = false := decide_eq_false h1
      rw [textsL, if_neg h1] at hk
      have HKK := Aside0.mk hk
      clear hk h1 h0 h00
      gi_wp2
      go_ret
      refine ⟨?_, HB.out⟩
      rw [← HKK.out, ← HE.out]; rfl
end Go.Proofs.Ytjjbhpbmfpodeaa.X
end
section
namespace Go.Proofs.Ytjjbhpbmfpodeaa.X
open Go.RowKit Go.Proofs.Ytjjbhpbmfpodeaa.PB Go.Proofs.YtjjbhpbmfpodeaaW.PrintWords Go.Proofs.YtjjbhpbmfpodeaaW.PrintLast Go.Proofs.YtjjbhpbmfpodeaaW.PrintMore
set_option linter.unusedVariables false
set_option linter.unusedSimpArgs false

theorem h148 : Try.prog.underlying 148 = some (.struct #[]) := by kernel_rfl
theorem info148 : (Try.prog.info? 148).map (fun i => (i.zero, i.size, i.bytes)) = some (some (.agg #[]), 0, 0) := by kernel_rfl
set_option maxRecDepth 100000 in
theorem ta97_nil (W : World) : (Instr.typeAssert Value.nilIface 20 148 true).run Try.prog W = .ok (.tuple #[.agg #[], .bool false]) W := by
  obtain ⟨i, hi, hz, _⟩ := info_parts info148
  simp [Instr.typeAssert, run_underlying h148, zeroValue, typeInfo, hi, hz]
set_option maxRecDepth 100000 in
theorem ta97_unfit (W : World) : (Instr.typeAssert (.iface 148 (.agg #[])) 20 148 true).run Try.prog W = .ok (.tuple #[.agg #[], .bool true]) W := by
  obtain ⟨i, hi, hz, _⟩ := info_parts info148
  simp [Instr.typeAssert, run_underlying h148]

set_option maxHeartbeats 4000000 in
set_option maxRecDepth 100000 in
theorem split1_idle (n b4 b5 : Nat) (w : World) :
    CallsDIn Fence.wide n Try.prog 115 #[.pointer (some ⟨b4, 0, none⟩), .pointer (some ⟨b5, 0, none⟩)] .returning w fun e u' w' => e = .returned (.tuple #[]) ∧ u' = .returning ∧ w' = w.alloc (.cells #[] 148) := by
  have ht := ta97_nil
  refine callsDIn_of_wpSIn Try.func115 rfl trivial fun c₀ cs hu => ?_
  apply wpSIn_seq
  apply wpSIn_region
  simp [wpOpsSIn, go_sem, recoverD, hu, Exit.thenS]
  simp only [Try.ntmps115, List.size_toArray, List.length_cons, List.length_nil, Nat.reduceAdd, Nat.reduceSub, Array.replicate_succ, Array.replicate_zero, List.push_toArray, List.append_toArray, List.nil_append, List.cons_append, List.setIfInBounds_toArray, List.set_cons_succ, List.set_cons_zero]
  refine wpSIn_of_wpIn rfl ?_
  gi_wp2
  cases c₀
  simp_all [bodyPostS, results, Try.results115]

set_option maxHeartbeats 4000000 in
set_option maxRecDepth 100000 in
theorem split1_catch (n b4 b5 : Nat) (w : World) (v4 v5 : Value) (hne : b4 ≠ b5) (h4 : w.heap[b4]? = some (.cells #[v4] 120 (0, 0))) (h5 : w.heap[b5]? = some (.cells #[v5] 4 (0, 0))) (older : List PanicEntry) :
    CallsDIn Fence.wide n Try.prog 115 #[.pointer (some ⟨b4, 0, none⟩), .pointer (some ⟨b5, 0, none⟩)] (.panicking ({ v := .iface 148 (.agg #[]), recovered := false } :: older)) w fun e u' w' =>
      e = .returned (.tuple #[]) ∧ u' = .panicking ({ v := .iface 148 (.agg #[]), recovered := true } :: older) ∧ w' = ((w.alloc (.cells #[] 148)).setCell ⟨b4, 0, none⟩ (.slice none 0 0)).setCell ⟨b5, 0, none⟩ (.bool false) := by
  have ht := ta97_unfit
  have g4 := blk_alloc h4 (.cells #[] 148)
  have g5 := blk_alloc h5 (.cells #[] 148)
  have e4 : (w.alloc (.cells #[] 148)).cell? ⟨b4, 0, none⟩ = some v4 := (blk_cell g4 0).trans rfl
  have z4 := blk_frozen g4 0
  have k5 := blk_far (p := ⟨b4, 0, none⟩) g5 (fun e => hne e.symm) (.slice none 0 0)
  have e5 : ((w.alloc (.cells #[] 148)).setCell ⟨b4, 0, none⟩ (.slice none 0 0)).cell? ⟨b5, 0, none⟩ = some v5 := (blk_cell k5 0).trans rfl
  have z5 := blk_frozen k5 0
  clear h4 h5 g4 g5 k5
  refine callsDIn_of_wpSIn Try.func115 rfl trivial fun c₀ cs hu => ?_
  apply wpSIn_seq
  apply wpSIn_region
  simp [wpOpsSIn, go_sem, recoverD, hu, Exit.thenS]
  simp only [Try.ntmps115, List.size_toArray, List.length_cons, List.length_nil, Nat.reduceAdd, Nat.reduceSub, Array.replicate_succ, Array.replicate_zero, List.push_toArray, List.append_toArray, List.nil_append, List.cons_append, List.setIfInBounds_toArray, List.set_cons_succ, List.set_cons_zero]
  refine wpSIn_of_wpIn rfl ?_
  gi_wp2
  cases c₀
  simp_all [bodyPostS, results, Try.results115]

/-- The pieces, part by part. -/
def splitGo : List S119 → ByteArray → List S124 → Option (List S124 × ByteArray)
  | [], s, out => some (out, s)
  | p :: ps, s, out =>
    match (if p.f2 = true then (if textsB s = true then some (s.size : Int) else none) else if p.f1 = true then firstN s else if (s.size : Int) < p.f0 then none else some p.f0) with
    | none => none
    | some n => splitGo ps (s.extract n.toNat s.size) (out ++ [⟨s.extract 0 n.toNat, p.f1⟩])
def spAns : Option (List S124 × ByteArray) → List S124 × Bool
  | none => ([], false)
  | some (o, r) => (o, decide (r.size = 0))
/-- What split tells. -/
def splitR (t : Int) (s : ByteArray) : List S124 × Bool :=
  match partsL t with
  | none => ([⟨s, false⟩], true)
  | some ps => spAns (splitGo ps s [])
def rdata_split.f (t : Int) (s : ByteArray) : Option (List S124 × Bool) := if (Lit.int .i64 t).wf = true ∧ s.size ≤ 100000000000 then some (splitR t s) else none

theorem results97 {tmps : Array Value} {w : World} {A B : Addr} {u v : Value} (hp : tmps.getD 4 undef = .pointer (some A)) (hq : tmps.getD 5 undef = .pointer (some B)) (hA : w.cell? A = some u) (hB : w.cell? B = some v) :
    (results Try.f97 tmps).run Try.prog w = .ok (.tuple #[u, v]) w := by
  have e1 : (loadVar 120 A).run Try.prog w = .ok u w := by simp [loadVar, go_sem, hA, Try.underlying120]
  have e2 : (loadVar 4 B).run Try.prog w = .ok v w := by simp [loadVar, go_sem, hB, Try.underlying4]
  simp only [Array.getD_eq_getD_getElem?] at hp hq
  have h : Try.f97.results = #[.cell 4 120, .cell 5 4] := rfl
  simp only [results, h]
  simp [Sem.run_bind, Result.andThen, hp, hq, asAddr, e1, e2]

def flat124 (xs : List S124) : List Value := xs.flatMap (fun x => [.string x.f0, .bool x.f1])
theorem reps124 (w : World) (base : Nat) (ok : Nat → Prop) : ∀ xs : List S124, Reps (k124.M w base ok) 2 xs (flat124 xs)
  | [] => Reps.none _ _
  | x :: xs => Reps.c2 (k124_mkM w base ok x) (reps124 w base ok xs)
theorem R124_of_own {w : World} {base : Nat} {v : Value} {xs : List S124} (h : w.ownsRow base 124 2 v xs.length (flat124 xs)) : Kd.R k124 124 w base (fun _ => True) v xs :=
  ⟨fun _ _ => trivial, flat124 xs, h, reps124 _ _ _ _⟩

theorem flat124_len (xs : List S124) : (flat124 xs).length = xs.length * 2 := by
  induction xs with
  | nil => rfl
  | cons x xs ih => simp only [flat124, List.flatMap_cons, List.length_append, List.length_cons, List.length_nil] at ih ⊢; omega
theorem own124 {w : World} {base g : Nat} {xs : List S124} (hg : base ≤ g) (hb : w.heap[g]? = some (.cells (flat124 xs).toArray 124 (0, 0))) (hl : xs.length ≤ 100) :
    w.ownsRow base 124 2 (.slice (some ⟨g, 0, none⟩) xs.length xs.length) xs.length (flat124 xs) := by
  refine ⟨flat124_len xs, .inr ⟨g, xs.length, _, rfl, hg, hb, Nat.le_refl _, by rw [maxLen_eq]; omega, by simp [flat124_len], ?_⟩⟩
  show List.take (xs.length * 2) (flat124 xs) = _
  rw [← flat124_len, List.take_length]
theorem firstL_range {s : ByteArray} : ∀ (k : Nat) (i : Int) {m : Int}, 0 ≤ i → firstL k s i = some m → 0 ≤ m ∧ m ≤ (s.size : Int)
  | 0, i, m, _, h => by cases h
  | k + 1, i, m, h0, h => by
    rw [firstL] at h
    have hb := bt_range s i
    by_cases h1 : i < (s.size : Int) ∧ i < 255
    · rw [if_pos h1] at h
      by_cases h2 : bt s i = 0
      · rw [if_pos h2] at h
        by_cases h3 : name_Check.f (s.extract 0 (i + 1).toNat) = some 0
        · rw [if_pos h3] at h; injection h with h; omega
        · rw [if_neg h3] at h; cases h
      · rw [if_neg h2] at h; exact firstL_range k _ (by omega) h
    · rw [if_neg h1] at h; cases h
theorem firstN_range {s : ByteArray} {m : Int} (h : firstN s = some m) : 0 ≤ m ∧ m ≤ (s.size : Int) := firstL_range 256 0 (by omega) h
theorem leaves_put {F : Fence} {P : Program} {fn : Func} {t t' : Array Value} {R : Ending → World → Prop} (he : ∀ w, (results fn t').run P w = (results fn t).run P w) : ∀ {ds : List Deferred} {n : Nat} {u : FrameMode} {w : World}, LeavesIn F n P fn t' R ds u w → LeavesIn F n P fn t R ds u w
  | [], n, u, w, h => by
    cases u with
    | run => exact h
    | returning => obtain ⟨v, h1, h2⟩ := h; exact ⟨v, (he w).symm.trans h1, h2⟩
    | panicking chain => exact h
  | d :: ds, n, u, w, h => by
    obtain ⟨h1, h2, fv, cap, f, args, h3, h4, h5, h6⟩ := h
    refine ⟨h1, h2, fv, cap, f, args, h3, h4, h5, h6.mono ?_⟩
    intro e u' w' h7
    cases e with
    | returned v => exact leaves_put he h7
    | panicked c => exact leaves_put he h7
    | outgrown => exact h7
theorem results_put (a : Act) (j : Nat) (v : Value) (h4 : j ≠ 4) (h5 : j ≠ 5) (w : World) : (results Try.f97 (a.put (some j) v).tmps).run Try.prog w = (results Try.f97 a.tmps).run Try.prog w := by
  have h : Try.f97.results = #[.cell 4 120, .cell 5 4] := rfl
  have e4 : (a.put (some j) v).tmps[4]? = a.tmps[4]? := Array.getElem?_setIfInBounds_ne h4
  have e5 : (a.put (some j) v).tmps[5]? = a.tmps[5]? := Array.getElem?_setIfInBounds_ne h5
  simp only [results, h, Array.getD_eq_getD_getElem?]
  simp [Sem.run_bind, Result.andThen, e4, e5]
theorem info124 : (Try.prog.info? 124).map (fun i => (i.zero, i.size, i.bytes)) = some (some (.agg #[.string ⟨#[]⟩, .bool false]), 2, 24) := by kernel_rfl
theorem step_append_124 {F : Fence} {n : Nat} {ops : Array Oper} {o : Oper} {a : Act} {Q : Exit → Act → World → Prop} {Kc : Act → World → Prop} {W : World} {B : Prop} (hw : Region.wanted o (yielded ops a.tmps) = true) (s x : Operand)
    (hop : o.op = Op.call { callee := Callee.builtin Builtin.append, args := #[s, x], argTypes := #[120, 120] }) (base : Nat) (v : Value) (xs : List S124) (p : S124) (g : Nat) (hs : a.eval s = v) (hx : a.eval x = .slice (some ⟨g, 0, none⟩) 1 1)
    (hb : W.heap[g]? = some (.cells #[.string p.f0, .bool p.f1] 124 (0, 0))) (hown : W.ownsRow base 124 2 v xs.length (flat124 xs)) (hbase : base ≤ W.heap.size) (hl : xs.length ≤ 100)
    (h : ∀ v' w', w'.ownsRow base 124 2 v' (xs.length + 1) (flat124 (xs ++ [p])) → W.grownBy w' v.ownBlock → Kc (a.put o.dst v') w') :
    if Region.wanted o (yielded ops a.tmps) = true then Oper.wpIn F n Try.prog o a W Kc Q else B := by
  rw [if_pos hw]
  obtain ⟨i, hi, hz, hsz, hby⟩ := info_parts info124
  have hnews : ∀ j u, [Value.string p.f0, Value.bool p.f1][j]? = some u → W.cell? ((⟨g, 0, none⟩ : Addr).add j) = some u := fun j u hu => by
    have e : (⟨g, 0, none⟩ : Addr).add j = ⟨g, j, none⟩ := by simp [Addr.add] <;> omega
    rw [e, blk_cell hb]; simpa using hu
  obtain ⟨v', w', hr, h2, h3, h4, h5⟩ := run_append_own_at (P := Try.prog) W base 120 o.type 124 i _ 2 24 Try.underlying120 hi hz hsz hby rfl (by decide) v xs.length (flat124 xs) hown ⟨g, 0, none⟩ 1 1 [.string p.f0, .bool p.f1] rfl hnews (by intro u hu; simp at hu; rcases hu with rfl | rfl <;> rfl) (by rw [maxLen_eq]; omega) (by omega) hbase
  unfold Oper.wpIn
  refine ⟨?_, ?_⟩
  · simp [Oper.about, hop, resolve, Target.leads, Sem.run_pure]
  · rw [Oper.semAt_plain F _ _ (by rw [hop]; intro c hc'; cases hc')]
    simp [execOp, hop, resolve, invoke, builtin, hs, hx, Result.andThen]
    erw [hr]
    refine h v' w' ?_ h3
    have e : flat124 (xs ++ [p]) = flat124 xs ++ [.string p.f0, .bool p.f1] := by simp [flat124]
    rw [e]; exact h2
/-- The two named results, in blocks of their own. -/
structure Rs (w W : World) (v4 v5 : Value) : Prop where
  b4 : W.heap[w.heap.size]? = some (.cells #[v4] 120 (0, 0))
  b5 : W.heap[w.heap.size + 1]? = some (.cells #[v5] 4 (0, 0))
  below : Below w.heap.size w W
theorem Rs.start (w : World) : Rs w ((w.alloc (Obj.cells #[.slice none 0 0] 120)).alloc (Obj.cells #[.bool false] 4)) (.slice none 0 0) (.bool false) :=
  ⟨blk_alloc (blk_new w _) _, by have := World.alloc_heap_new (w.alloc (Obj.cells #[.slice none 0 0] 120)) (Obj.cells #[.bool false] 4); rwa [World.size_alloc] at this, below_alloc (below_alloc (Below.refl _ _) _) _⟩
theorem Rs.next {w W W' : World} {v4 v5 : Value} (h : Rs w W v4 v5) (hb : Below W.heap.size W W') : Rs w W' v4 v5 :=
  ⟨blk_below h.b4 hb, blk_below h.b5 hb, h.below.trans (hb.mono h.below.size)⟩
theorem Rs.alloc {w W : World} {v4 v5 : Value} (h : Rs w W v4 v5) (o : Obj) : Rs w (W.alloc o) v4 v5 := h.next (below_alloc (Below.refl _ _) o)
theorem Rs.put4 {w W : World} {v4 v5 : Value} (h : Rs w W v4 v5) (u : Value) : Rs w (W.setCell ⟨w.heap.size, 0, none⟩ u) u v5 :=
  ⟨blk_put h.b4 0 u rfl, blk_far (p := ⟨w.heap.size, 0, none⟩) h.b5 (by simp) u, h.below.setCell (Nat.le_refl _) _⟩
theorem Rs.put5 {w W : World} {v4 v5 : Value} (h : Rs w W v4 v5) (u : Value) : Rs w (W.setCell ⟨w.heap.size + 1, 0, none⟩ u) v4 u :=
  ⟨blk_far (p := ⟨w.heap.size + 1, 0, none⟩) h.b4 (by simp) u, blk_put h.b5 0 u rfl, h.below.setCell (Nat.le_succ _) _⟩
theorem own_slice {w : World} {base e sz n : Nat} {v : Value} {xs : List Value} (h : w.ownsRow base e sz v n xs) : ∃ A m c, v = .slice A m c := by
  rcases h.2 with ⟨h0, _⟩ | ⟨g, cap, cur, hv, _⟩
  · exact ⟨_, _, _, h0⟩
  · exact ⟨_, _, _, hv⟩
theorem Rs.grown_ {w W W' : World} {v4 v5 : Value} {row : Option Nat} (h : Rs w W v4 v5) (hg : W.grownBy W' row) (h4 : some w.heap.size ≠ row) (h5 : some (w.heap.size + 1) ≠ row) (hr : ∀ j, row = some j → w.heap.size ≤ j) : Rs w W' v4 v5 :=
  ⟨blk_grown h.b4 hg h4, blk_grown h.b5 hg h5, h.below.grown hg h.below.size hr⟩
theorem own_form {w : World} {base e sz n : Nat} {v : Value} {xs : List Value} (h : w.ownsRow base e sz v n xs) (hn : 0 < n) : ∃ g cap, v = .slice (some ⟨g, 0, none⟩) n cap := by
  rcases h.2 with ⟨_, h0⟩ | ⟨g, cap, cur, hv, _⟩
  · omega
  · exact ⟨g, cap, hv⟩
theorem own_lo {w : World} {base e sz n : Nat} {v : Value} {xs : List Value} (h : w.ownsRow base e sz v n xs) : ∀ k, v.ownBlock = some k → base ≤ k := by
  intro k hk
  rcases h.2 with ⟨rfl, _⟩ | ⟨g, cap, cur, rfl, hg, _⟩
  · cases hk
  · have : g = k := by simpa [Value.ownBlock] using hk
    omega
theorem own_below_ {w w' : World} {base e sz n : Nat} {v : Value} {xs : List Value} (h : w.ownsRow base e sz v n xs) (hb : Below w.heap.size w w') : w'.ownsRow base e sz v n xs :=
  own_move h (fun k hk => by obtain ⟨cs, hc⟩ := own_typed h k hk; exact hb.block k (blk_lt hc))
theorem Rs.c4 {w W : World} {v4 v5 : Value} (h : Rs w W v4 v5) : W.cell? ⟨w.heap.size, 0, none⟩ = some v4 := (blk_cell h.b4 0).trans rfl
theorem Rs.c5 {w W : World} {v4 v5 : Value} (h : Rs w W v4 v5) : W.cell? ⟨w.heap.size + 1, 0, none⟩ = some v5 := (blk_cell h.b5 0).trans rfl
theorem Rs.z4 {w W : World} {v4 v5 : Value} (h : Rs w W v4 v5) : W.frozen? ⟨w.heap.size, 0, none⟩ = false := blk_frozen h.b4 0
theorem Rs.z5 {w W : World} {v4 v5 : Value} (h : Rs w W v4 v5) : W.frozen? ⟨w.heap.size + 1, 0, none⟩ = false := blk_frozen h.b5 0

set_option maxHeartbeats 8000000 in
set_option maxRecDepth 100000 in
theorem rdata_split.any (n : Nat) (hn : 5 ≤ n) (t : Int) (ht : (Lit.int .i64 t).wf = true) (hp : partsL t = none) (s : ByteArray) (w : World) :
    CallsIn Fence.wide n Try.prog 97 #[.int .i64 t, .string s] w fun e w' => ∃ v, e = .returned (.tuple #[v, .bool true]) ∧ w'.ownsRow w.heap.size 124 2 v 1 (flat124 [⟨s, false⟩]) ∧ Below w.heap.size w w' := by
  have HWF := Aside0.mk ht
  have HP := Aside0.mk hp
  have HS0 := Aside0.mk (Rs.start w)
  clear ht hp
  refine callsIn_of_wp_defers Try.func97 rfl trivial ?_
  simp only [Try.ntmps97, List.size_toArray, List.length_cons, List.length_nil, Nat.reduceAdd, Nat.reduceSub, Array.replicate_succ, Array.replicate_zero, List.push_toArray, List.append_toArray, List.nil_append, List.cons_append]
  gi_wp2_with (first
    | (first | refine ⟨trivial, fun _ => by omega, ?_⟩ | refine ⟨trivial, ?_⟩); refine (rdata_parts.in_ (n - 1) (by omega) t HWF.out _).mono ?_; rw [HP.out]; rintro e w1 ⟨v, rfl, hr, hb⟩; have HS1 := Aside0.mk ((HS0.out.next hb).alloc (.cells #[.string s, .bool false] 124)); have hw1 := blk_lt (HS0.out.next hb).b5; have HW1 := Aside0.mk hw1; have c4 := HS1.out.c4; have z4 := HS1.out.z4; have c5 := (HS1.out.put4 (.slice (some ⟨w1.heap.size, 0, none⟩) 1 1)).c5; have z5 := (HS1.out.put4 (.slice (some ⟨w1.heap.size, 0, none⟩) 1 1)).z5; clear hr hb hw1)
  have hS := (HS1.out.put4 (.slice (some ⟨w1.heap.size, 0, none⟩) 1 1)).put5 (.bool true)
  refine ⟨_, results97 rfl rfl hS.c4 hS.c5, _, rfl, ?_, hS.below⟩
  exact own124 (xs := [⟨s, false⟩]) (by have := HW1.out; omega) (blk_far (p := ⟨w.heap.size + 1, 0, none⟩) (blk_far (p := ⟨w.heap.size, 0, none⟩) (blk_new w1 _) (by have := HW1.out; simp; omega) _) (by have := HW1.out; simp; omega) _) (by simp)

set_option maxHeartbeats 16000000 in
set_option maxRecDepth 100000 in
theorem rdata_split.known (n : Nat) (hn : 5 ≤ n) (t : Int) (ht : (Lit.int .i64 t).wf = true) (ps : List S119) (hp : partsL t = some ps) (hl : ps.length ≤ 3) (hok : ∀ p ∈ ps, (p.f2 = true → p.f1 = false) ∧ 0 ≤ p.f0 ∧ p.f0 ≤ 100) (s : ByteArray) (hs : s.size ≤ 100000000000) (R : Option (List S124 × ByteArray)) (hR : splitGo ps s [] = R) (w : World) :
    CallsIn Fence.wide n Try.prog 97 #[.int .i64 t, .string s] w fun e w' => ∃ v, e = .returned (.tuple #[v, .bool (spAns R).2]) ∧ w'.ownsRow w.heap.size 124 2 v (spAns R).1.length (flat124 (spAns R).1) ∧ Below w.heap.size w w' := by
  have HWF := Aside0.mk ht
  have HP := Aside0.mk hp
  have HS0 := Aside0.mk (Rs.start w)
  have HL := Aside0.mk hl
  have HOK := Aside0.mk hok
  have HSZ := Aside0.mk hs
  have HR := Aside0.mk hR
  have hmf : ∀ (fn : Fn) (first cap : Array Value) (w : World), (Instr.makeFunc fn first cap).run Try.prog w = .ok (.func fn first cap) w := fun _ _ _ _ => rfl
  clear ht hp hl hok hs hR
  refine callsIn_of_wp_defers Try.func97 rfl trivial ?_
  simp only [Try.ntmps97, List.size_toArray, List.length_cons, List.length_nil, Nat.reduceAdd, Nat.reduceSub, Array.replicate_succ, Array.replicate_zero, List.push_toArray, List.append_toArray, List.nil_append, List.cons_append]
  gi_wp2_with (first
    | (first | refine ⟨trivial, fun _ => by omega, ?_⟩ | refine ⟨trivial, ?_⟩); refine (rdata_parts.in_ (n - 1) (by omega) t HWF.out _).mono ?_; rw [HP.out]; rintro e w1 ⟨v, rfl, hr, hb⟩; obtain ⟨Al, cl, rfl, hcl, hCl⟩ := Kd.R_reads hr; have HRp : Aside0 (Kd.R k119 119 w1 (w.heap.size + 2) (fun k => w.heap.size + 2 ≤ k) (.slice Al ps.length cl) ps) := ⟨by have h := Kd.R_mono (Kd.R_bound hr) (ok' := fun k => w.heap.size + 2 ≤ k) (fun k hk => by have := hk.2.1; simp at this; omega); simp only [World.size_alloc, Option.getD_some] at h; exact h⟩; have HS1 := Aside0.mk (HS0.out.next hb); clear hr hb hcl hCl)
  gi_loopw [1, 24] (fun a j wr => ∃ (S : ByteArray) (J : Int) (out : List S124) (v : Value), a = .string S ∧ j = .int .i64 J ∧ 0 ≤ J ∧ J ≤ (ps.length : Int) ∧ Aside0 (splitGo (ps.drop J.toNat) S out = R ∧ out.length = J.toNat ∧ S.size ≤ 100000000000) ∧ Aside0 (Rs w wr v (.bool false)) ∧
      Aside0 (wr.ownsRow (w.heap.size + 2) 124 2 v out.length (flat124 out)) ∧ Aside0 (Kd.R k119 119 wr (w.heap.size + 2) (fun k => w.heap.size + 2 ≤ k) (.slice Al ps.length cl) ps))
    (fun _ j _ => match j with | .int _ J => ((ps.length : Int) - J).toNat | _ => 0)
  case atStart => exact ⟨s, 0, [], _, rfl, rfl, by omega, by omega, ⟨HR.out, rfl, HSZ.out⟩, HS1, ⟨World.ownsRow_nil _ _ _ _⟩, HRp⟩
  case round =>
    obtain ⟨S, J, out, v, rfl, rfl, h0, h1, HK, HS, HO, HRw⟩ := hrel
    have HJ := Aside0.mk (And.intro h0 h1)
    by_cases hlt : J < (ps.length : Int)
    · have d1 : decide (J < (ps.length : Int)) = true := decide_eq_true hlt
      obtain ⟨A', c', ee, _, hC⟩ := Kd.R_reads HRw.out
      obtain ⟨rfl, rfl⟩ : Al = A' ∧ cl = c' := by injection ee with e1 e2 e3; exact ⟨e1, e3⟩
      obtain ⟨ad, rfl, hx0, hx1, hx2⟩ := at_T119 hC J h0 hlt
      have hpd : ps.drop J.toNat = rd_T119 ps J :: ps.drop (J.toNat + 1) := by
        have hj : J.toNat < ps.length := by omega
        rw [List.drop_eq_getElem_cons hj]
        congr 1
        unfold rd_T119
        rw [List.getD_eq_getElem?_getD, List.getElem?_eq_getElem hj]; rfl
      have hpm : rd_T119 ps J ∈ ps := by
        have : rd_T119 ps J ∈ ps.drop J.toNat := by rw [hpd]; exact List.mem_cons_self
        exact List.mem_of_mem_drop this
      have hpo := HOK.out _ hpm
      obtain ⟨⟨f0, f1, f2⟩, hpe⟩ : ∃ p, p = rd_T119 ps J := ⟨_, rfl⟩
      rw [← hpe] at hx0 hx1 hx2 hpd hpo
      have hk := HK.out.1
      rw [hpd] at hk
      have hwj : IntKind.i64.wrap (J + 1) = J + 1 := IntWalk.i64_in _ (by have := HL.out; omega)
      have hp0 := eq_true h0
      have hq0 := eq_true hlt
      clear hpd hpm hpe hC ee
      simp only at hx0 hx1 hx2 hpo
      have HLT := Aside0.mk hlt
      cases f2 with
      | true =>
        obtain rfl : f1 = false := hpo.1 rfl
        by_cases htx : textsB S = true
        · have HTX := Aside0.mk htx
          have hsz0 : 0 ≤ (S.size : Int) := by omega
          have hs1 := str_to S (S.size : Int) (by omega) (by omega)
          have hs2 := str_from S (S.size : Int) (by omega) (by omega)
          obtain ⟨S1, hS1⟩ : ∃ S1, S1 = S.extract 0 ((S.size : Int)).toNat := ⟨_, rfl⟩
          obtain ⟨S2, hS2⟩ : ∃ S2, S2 = S.extract ((S.size : Int)).toNat S.size := ⟨_, rfl⟩
          have HSZ2 : Aside0 (S2.size ≤ 100000000000) := ⟨by rw [hS2, ByteArray.size_extract]; have := HK.out.2.2; omega⟩
          have HNX : Aside0 (splitGo (ps.drop (J.toNat + 1)) S2 (out ++ [⟨S1, false⟩]) = R) := ⟨by rw [← hk, hS1, hS2]; simp [splitGo, htx]⟩
          rw [← hS1] at hs1
          rw [← hS2] at hs2
          clear hk h0 h1 hlt hpo hS1 hS2 htx hsz0
          gi_wp2_with (first | (first | refine ⟨trivial, fun _ => by omega, ?_⟩ | refine ⟨trivial, ?_⟩); refine (rdata_texts.in_ (n - 1) (by omega) S HK.out.2.2 true HTX.out _).mono ?_; rintro e w5 ⟨rfl, hb5⟩; have HB5 := Aside0.mk hb5; have e0 : w5.cell? ⟨wr.heap.size, 0, none⟩ = some (.int .i64 f0) := (blk_cell (blk_below (blk_new wr (Obj.cells #[.int .i64 f0, .bool false, .bool true] 119)) hb5) 0).trans rfl; have e1 : w5.cell? ⟨wr.heap.size, 1, none⟩ = some (.bool false) := (blk_cell (blk_below (blk_new wr (Obj.cells #[.int .i64 f0, .bool false, .bool true] 119)) hb5) 1).trans rfl; have e2 : w5.cell? ⟨wr.heap.size, 2, none⟩ = some (.bool true) := (blk_cell (blk_below (blk_new wr (Obj.cells #[.int .i64 f0, .bool false, .bool true] 119)) hb5) 2).trans rfl; clear hb5)
          have q1 := e1
          clear e0 e1 e2
          have HSa := (HS.out.alloc (Obj.cells #[.int .i64 f0, .bool false, .bool true] 119)).next HB5.out
          have HSd : Rs w w5.drew v (.bool false) := HSa.next (below_drew (Below.refl _ _))
          have HSx : Rs w (w5.drew.alloc (Obj.cells #[.string S1, .bool false] 124)) v (.bool false) := HSd.alloc _
          have c4 := HSd.c4
          have c4x := (HSa.alloc (Obj.cells #[.string S1, .bool false] 124)).c4
          have q9 : w5.cell? ⟨wr.heap.size, 1, none⟩ = some (.bool false) := q1
          have hlit : (w5.drew.alloc (Obj.cells #[.string S1, .bool false] 124)).heap[w5.heap.size]? = some (.cells #[.string S1, .bool false] 124 (0, 0)) := by
            have := blk_new w5.drew (Obj.cells #[.string S1, .bool false] 124)
            have e : w5.drew.heap.size = w5.heap.size := rfl
            rwa [e] at this
          have hbx : Below wr.heap.size wr (w5.drew.alloc (Obj.cells #[.string S1, .bool false] 124)) := below_alloc (below_drew ((below_alloc (Below.refl _ _) _).trans (HB5.out.mono (by simp)))) _
          have hlo : (w5.drew.alloc (Obj.cells #[.string S1, .bool false] 124)).ownsRow (w.heap.size + 2) 124 2 v out.length (flat124 out) := own_below_ HO.out hbx
          have hbs : w.heap.size + 2 ≤ (w5.drew.alloc (Obj.cells #[.string S1, .bool false] 124)).heap.size := blk_lt HSx.b5
          have holen : out.length ≤ 100 := by have := HK.out.2.1; have := HJ.out; have := HL.out; omega
          have hne4 : some w.heap.size ≠ v.ownBlock := fun e => by have := own_lo HO.out _ e.symm; omega
          have hne5 : some (w.heap.size + 1) ≠ v.ownBlock := fun e => by have := own_lo HO.out _ e.symm; omega
          have HRx := Aside0.mk (Kd.R_below HRw.out hbx)
          have hmix : Try.prog.follows .mixedOrders = true := by kernel_rfl
          refine wpIn_region_any hmix ?_
          change wpAnyIn _ _ _ _ _ _ _ _ _ (World.drew _)
          refine wpAnyIn_take (i := 1) (v := .string S) rfl rfl (by kernel_rfl) (by kernel_rfl) (by kernel_rfl) (fun _ _ _ h => leaves_put (fun w => results_put _ _ _ (by decide) (by decide) w) h) ⟨Or.inl ⟨by rfl, by intro w; go_simp; done⟩, fun _ => rfl⟩ ?_
          refine wpAnyIn_take (i := 2) (v := .int .i64 (S.size : Int)) rfl rfl (by kernel_rfl) (by kernel_rfl) (by kernel_rfl) (fun _ _ _ h => leaves_put (fun w => results_put _ _ _ (by decide) (by decide) w) h) ⟨Or.inl ⟨by rfl, by intro w; go_simp; done⟩, fun _ => rfl⟩ ?_
          refine wpAnyIn_take (i := 3) (v := .string S1) rfl rfl (by kernel_rfl) (by kernel_rfl) (by kernel_rfl) (fun _ _ _ h => leaves_put (fun w => results_put _ _ _ (by decide) (by decide) w) h) ⟨Or.inl ⟨by rfl, by intro w; go_simp; done⟩, fun _ => rfl⟩ ?_
          refine wpAnyIn_take (i := 4) (v := .pointer (some ⟨wr.heap.size, 1, none⟩)) rfl rfl (by kernel_rfl) (by kernel_rfl) (by kernel_rfl) (fun _ _ _ h => leaves_put (fun w => results_put _ _ _ (by decide) (by decide) w) h) ⟨Or.inl ⟨by rfl, by intro w; go_simp; done⟩, fun _ => rfl⟩ ?_
          refine wpAnyIn_ready (rs := [0, 5]) (by kernel_rfl) (by simp) ?_
          refine AllReadyIn.cons rfl (fun K hK => ?_) (AllReadyIn.cons rfl (fun K hK => ?_) AllReadyIn.nil)
          · go_simp
            refine hK _ _ ?_
            clear hK K
            refine wpAnyIn_ready (rs := [5]) (by kernel_rfl) (by simp) ?_
            refine AllReadyIn.cons rfl (fun K hK => ?_) AllReadyIn.nil
            go_simp
            refine hK _ _ ?_
            clear hK K
            refine wpAnyIn_take (i := 6) (v := .agg #[.string S1, .bool false]) rfl rfl (by kernel_rfl) (by kernel_rfl) (by kernel_rfl) (fun _ _ _ h => leaves_put (fun w => results_put _ _ _ (by decide) (by decide) w) h) ⟨Or.inl ⟨by rfl, by intro w; go_simp; done⟩, fun _ => rfl⟩ ?_
            refine wpAnyIn_ready (rs := [7]) (by kernel_rfl) (by simp) ?_
            refine AllReadyIn.cons rfl (fun K hK => ?_) AllReadyIn.nil
            go_simp
            refine hK _ _ ?_
            clear hK K
            refine wpAnyIn_ready (rs := [8]) (by kernel_rfl) (by simp) ?_
            refine AllReadyIn.cons rfl (fun K hK => ?_) AllReadyIn.nil
            refine step_append_124 (by rfl) _ _ rfl (w.heap.size + 2) v out (⟨S1, false⟩ : S124) (w5.heap.size) rfl rfl ?_ ?_ ?_ ?_ ?_
            · exact hlit
            · exact hlo
            · exact hbs
            · exact holen
            intro v' w' hown' hgr'
            obtain ⟨gv, cv, rfl⟩ := own_form hown' (Nat.succ_pos _)
            have HG := Aside0.mk hgr'
            have HO2 := Aside0.mk hown'
            have hS2 := HSx.grown_ hgr' hne4 hne5 (fun j e => by have := own_lo hlo j e; omega)
            have c4' := hS2.c4
            have z4' := hS2.z4
            have HS2 := Aside0.mk hS2
            clear hgr' hown' hS2
            refine hK _ _ ?_
            clear hK K
            refine wpAnyIn_ready (rs := [9]) (by kernel_rfl) (by simp) ?_
            refine AllReadyIn.cons rfl (fun K hK => ?_) AllReadyIn.nil
            go_simp
            refine hK _ _ ?_
            clear hK K
            refine wpAnyIn_done (by kernel_rfl) ?_ _
            gi_wp2
            refine ⟨⟨S2, J + 1, out ++ [⟨S1, false⟩], .slice (some ⟨gv, 0, none⟩) (out.length + 1) cv, rfl, rfl, by have := HJ.out; omega, by have := HLT.out; omega, ⟨?_, ?_, ?_⟩, ⟨HS2.out.put4 _⟩, ⟨?_⟩, ⟨?_⟩⟩, ?_⟩
            · have e : (J + 1).toNat = J.toNat + 1 := by have := HJ.out; omega
              rw [e]; exact HNX.out
            · rw [List.length_append]; have := HK.out.2.1; have := HJ.out; simp; omega
            · exact HSZ2.out
            · rw [List.length_append]; exact own_move HO2.out (fun k hk => Below.heap_setCell _ _ _ _ (fun e => by have := own_lo HO2.out k hk; simp at e; omega))
            · exact Kd.R_far (Kd.R_over' HRx.out (own_typed hlo) (by decide) HG.out) (fun k hk e => by simp at e; omega) _
            · show ((ps.length : Int) - (J + 1)).toNat < ((ps.length : Int) - J).toNat; have := HLT.out; omega
          · go_simp
            refine hK _ _ ?_
            clear hK K
            refine wpAnyIn_take (i := 6) (v := .agg #[.string S1, .bool false]) rfl rfl (by kernel_rfl) (by kernel_rfl) (by kernel_rfl) (fun _ _ _ h => leaves_put (fun w => results_put _ _ _ (by decide) (by decide) w) h) ⟨Or.inl ⟨by rfl, by intro w; go_simp; done⟩, fun _ => rfl⟩ ?_
            refine wpAnyIn_ready (rs := [0, 7]) (by kernel_rfl) (by simp) ?_
            refine AllReadyIn.cons rfl (fun K hK => ?_) (AllReadyIn.cons rfl (fun K hK => ?_) AllReadyIn.nil)
            · go_simp
              refine hK _ _ ?_
              clear hK K
              refine wpAnyIn_ready (rs := [7]) (by kernel_rfl) (by simp) ?_
              refine AllReadyIn.cons rfl (fun K hK => ?_) AllReadyIn.nil
              go_simp
              refine hK _ _ ?_
              clear hK K
              refine wpAnyIn_ready (rs := [8]) (by kernel_rfl) (by simp) ?_
              refine AllReadyIn.cons rfl (fun K hK => ?_) AllReadyIn.nil
              refine step_append_124 (by rfl) _ _ rfl (w.heap.size + 2) v out (⟨S1, false⟩ : S124) (w5.heap.size) rfl rfl ?_ ?_ ?_ ?_ ?_
              · exact hlit
              · exact hlo
              · exact hbs
              · exact holen
              intro v' w' hown' hgr'
              obtain ⟨gv, cv, rfl⟩ := own_form hown' (Nat.succ_pos _)
              have HG := Aside0.mk hgr'
              have HO2 := Aside0.mk hown'
              have hS2 := HSx.grown_ hgr' hne4 hne5 (fun j e => by have := own_lo hlo j e; omega)
              have c4' := hS2.c4
              have z4' := hS2.z4
              have HS2 := Aside0.mk hS2
              clear hgr' hown' hS2
              refine hK _ _ ?_
              clear hK K
              refine wpAnyIn_ready (rs := [9]) (by kernel_rfl) (by simp) ?_
              refine AllReadyIn.cons rfl (fun K hK => ?_) AllReadyIn.nil
              go_simp
              refine hK _ _ ?_
              clear hK K
              refine wpAnyIn_done (by kernel_rfl) ?_ _
              gi_wp2
              refine ⟨⟨S2, J + 1, out ++ [⟨S1, false⟩], .slice (some ⟨gv, 0, none⟩) (out.length + 1) cv, rfl, rfl, by have := HJ.out; omega, by have := HLT.out; omega, ⟨?_, ?_, ?_⟩, ⟨HS2.out.put4 _⟩, ⟨?_⟩, ⟨?_⟩⟩, ?_⟩
              · have e : (J + 1).toNat = J.toNat + 1 := by have := HJ.out; omega
                rw [e]; exact HNX.out
              · rw [List.length_append]; have := HK.out.2.1; have := HJ.out; simp; omega
              · exact HSZ2.out
              · rw [List.length_append]; exact own_move HO2.out (fun k hk => Below.heap_setCell _ _ _ _ (fun e => by have := own_lo HO2.out k hk; simp at e; omega))
              · exact Kd.R_far (Kd.R_over' HRx.out (own_typed hlo) (by decide) HG.out) (fun k hk e => by simp at e; omega) _
              · show ((ps.length : Int) - (J + 1)).toNat < ((ps.length : Int) - J).toNat; have := HLT.out; omega
            · go_simp
              refine hK _ _ ?_
              clear hK K
              refine wpAnyIn_ready (rs := [0]) (by kernel_rfl) (by simp) ?_
              refine AllReadyIn.cons rfl (fun K hK => ?_) AllReadyIn.nil
              go_simp
              refine hK _ _ ?_
              clear hK K
              refine wpAnyIn_ready (rs := [8]) (by kernel_rfl) (by simp) ?_
              refine AllReadyIn.cons rfl (fun K hK => ?_) AllReadyIn.nil
              refine step_append_124 (by rfl) _ _ rfl (w.heap.size + 2) v out (⟨S1, false⟩ : S124) (w5.heap.size) rfl rfl ?_ ?_ ?_ ?_ ?_
              · exact hlit
              · exact hlo
              · exact hbs
              · exact holen
              intro v' w' hown' hgr'
              obtain ⟨gv, cv, rfl⟩ := own_form hown' (Nat.succ_pos _)
              have HG := Aside0.mk hgr'
              have HO2 := Aside0.mk hown'
              have hS2 := HSx.grown_ hgr' hne4 hne5 (fun j e => by have := own_lo hlo j e; omega)
              have c4' := hS2.c4
              have z4' := hS2.z4
              have HS2 := Aside0.mk hS2
              clear hgr' hown' hS2
              refine hK _ _ ?_
              clear hK K
              refine wpAnyIn_ready (rs := [9]) (by kernel_rfl) (by simp) ?_
              refine AllReadyIn.cons rfl (fun K hK => ?_) AllReadyIn.nil
              go_simp
              refine hK _ _ ?_
              clear hK K
              refine wpAnyIn_done (by kernel_rfl) ?_ _
              gi_wp2
              refine ⟨⟨S2, J + 1, out ++ [⟨S1, false⟩], .slice (some ⟨gv, 0, none⟩) (out.length + 1) cv, rfl, rfl, by have := HJ.out; omega, by have := HLT.out; omega, ⟨?_, ?_, ?_⟩, ⟨HS2.out.put4 _⟩, ⟨?_⟩, ⟨?_⟩⟩, ?_⟩
              · have e : (J + 1).toNat = J.toNat + 1 := by have := HJ.out; omega
                rw [e]; exact HNX.out
              · rw [List.length_append]; have := HK.out.2.1; have := HJ.out; simp; omega
              · exact HSZ2.out
              · rw [List.length_append]; exact own_move HO2.out (fun k hk => Below.heap_setCell _ _ _ _ (fun e => by have := own_lo HO2.out k hk; simp at e; omega))
              · exact Kd.R_far (Kd.R_over' HRx.out (own_typed hlo) (by decide) HG.out) (fun k hk e => by simp at e; omega) _
              · show ((ps.length : Int) - (J + 1)).toNat < ((ps.length : Int) - J).toNat; have := HLT.out; omega
        · have HTX : Aside0 (textsB S = false) := ⟨by simpa using htx⟩
          have HNX : Aside0 (none = R) := ⟨by rw [← hk]; simp [splitGo, htx]⟩
          clear hk h0 h1 hlt hpo htx
          gi_wp2_with (first | (first | refine ⟨trivial, fun _ => by omega, ?_⟩ | refine ⟨trivial, ?_⟩); refine (rdata_texts.in_ (n - 1) (by omega) S HK.out.2.2 false HTX.out _).mono ?_; rintro e w5 ⟨rfl, hb5⟩; have HB5 := Aside0.mk hb5; have e0 : w5.cell? ⟨wr.heap.size, 0, none⟩ = some (.int .i64 f0) := (blk_cell (blk_below (blk_new wr (Obj.cells #[.int .i64 f0, .bool false, .bool true] 119)) hb5) 0).trans rfl; have e1 : w5.cell? ⟨wr.heap.size, 1, none⟩ = some (.bool false) := (blk_cell (blk_below (blk_new wr (Obj.cells #[.int .i64 f0, .bool false, .bool true] 119)) hb5) 1).trans rfl; have e2 : w5.cell? ⟨wr.heap.size, 2, none⟩ = some (.bool true) := (blk_cell (blk_below (blk_new wr (Obj.cells #[.int .i64 f0, .bool false, .bool true] 119)) hb5) 2).trans rfl; clear hb5)
          have hSp := (HS.out.alloc (Obj.cells #[.int .i64 f0, .bool false, .bool true] 119)).next HB5.out
          refine leavesIn_cons (f := 115) (args := #[.pointer (some ⟨w.heap.size, 0, none⟩), .pointer (some ⟨w.heap.size + 1, 0, none⟩)]) (by simp) (fun _ => by omega) (by simp [go_sem]) (fun _ _ => trivial) ?_
          refine (split1_catch (n - 1) _ _ _ _ _ (by omega) hSp.b4 hSp.b5 []).mono ?_
          rintro e u' w'' ⟨rfl, rfl, rfl⟩
          have hSf := ((hSp.alloc (Obj.cells #[] 148)).put4 (.slice none 0 0)).put5 (.bool false)
          rw [← HNX.out]
          exact ⟨_, results97 rfl rfl hSf.c4 hSf.c5, _, rfl, World.ownsRow_nil _ _ _ _, hSf.below⟩
      | false =>
        cases f1 with
        | true =>
          cases hfn : firstN S with
          | none =>
            have HFN := Aside0.mk hfn
            have HNX : Aside0 (none = R) := ⟨by rw [← hk]; simp [splitGo, hfn]⟩
            clear hk h0 h1 hlt hpo hfn
            gi_wp2_with (first | (first | refine ⟨trivial, fun _ => by omega, ?_⟩ | refine ⟨trivial, ?_⟩); refine (rdata_first.in_ (n - 1) (by omega) S HK.out.2.2 none HFN.out _).mono ?_; rintro e w5 ⟨he, hb5⟩; have he2 : e = .panicked [unfit] := he; subst he2; have HB5 := Aside0.mk hb5; clear hb5 | (show Fence.wide.fn 116 ∧ _; refine ⟨trivial, ?_⟩))
            have hSp := (HS.out.alloc (Obj.cells #[.int .i64 f0, .bool true, .bool false] 119)).next HB5.out
            refine leavesIn_cons (f := 115) (args := #[.pointer (some ⟨w.heap.size, 0, none⟩), .pointer (some ⟨w.heap.size + 1, 0, none⟩)]) (by simp) (fun _ => by omega) (by simp [go_sem]) (fun _ _ => trivial) ?_
            refine (split1_catch (n - 1) _ _ _ _ _ (by omega) hSp.b4 hSp.b5 []).mono ?_
            rintro e u' w'' ⟨rfl, rfl, rfl⟩
            have hSf := ((hSp.alloc (Obj.cells #[] 148)).put4 (.slice none 0 0)).put5 (.bool false)
            rw [← HNX.out]
            exact ⟨_, results97 rfl rfl hSf.c4 hSf.c5, _, rfl, World.ownsRow_nil _ _ _ _, hSf.below⟩
          | some m =>
            have hm := firstN_range hfn
            have HFN := Aside0.mk hfn
            have hs1 := str_to S m (by omega) (by omega)
            have hs2 := str_from S m (by omega) (by omega)
            obtain ⟨S1, hS1⟩ : ∃ S1, S1 = S.extract 0 (m).toNat := ⟨_, rfl⟩
            obtain ⟨S2, hS2⟩ : ∃ S2, S2 = S.extract (m).toNat S.size := ⟨_, rfl⟩
            have HSZ2 : Aside0 (S2.size ≤ 100000000000) := ⟨by rw [hS2, ByteArray.size_extract]; have := HK.out.2.2; omega⟩
            have hml : (S1.size : Int) = m := by rw [hS1, ByteArray.size_extract]; omega
            have HNX : Aside0 (splitGo (ps.drop (J.toNat + 1)) S2 (out ++ [⟨S1, true⟩]) = R) := ⟨by rw [← hk, hS1, hS2]; simp [splitGo, hfn]⟩
            rw [← hS1] at hs1
            rw [← hS2] at hs2
            have HS1e := Aside0.mk hS1
            have d3 : decide ((S.size : Int) < m) = false := decide_eq_false (by omega)
            clear hk h0 h1 hlt hpo hS1 hS2 hfn hm
            gi_wp2_with (first | (first | refine ⟨trivial, fun _ => by omega, ?_⟩ | refine ⟨trivial, ?_⟩); refine (rdata_first.in_ (n - 1) (by omega) S HK.out.2.2 (some m) HFN.out _).mono ?_; rintro e w5 ⟨he, hb5⟩; have he2 : e = .returned (.string S1) := (by rw [HS1e.out]; exact he); subst he2; have HB5 := Aside0.mk hb5; have e0 : w5.cell? ⟨wr.heap.size, 0, none⟩ = some (.int .i64 f0) := (blk_cell (blk_below (blk_new wr (Obj.cells #[.int .i64 f0, .bool true, .bool false] 119)) hb5) 0).trans rfl; have e1 : w5.cell? ⟨wr.heap.size, 1, none⟩ = some (.bool true) := (blk_cell (blk_below (blk_new wr (Obj.cells #[.int .i64 f0, .bool true, .bool false] 119)) hb5) 1).trans rfl; have e2 : w5.cell? ⟨wr.heap.size, 2, none⟩ = some (.bool false) := (blk_cell (blk_below (blk_new wr (Obj.cells #[.int .i64 f0, .bool true, .bool false] 119)) hb5) 2).trans rfl; clear hb5 | (show Fence.wide.fn 116 ∧ _; refine ⟨trivial, ?_⟩))
            have q1 := e1
            clear e0 e1 e2
            have HSa := (HS.out.alloc (Obj.cells #[.int .i64 f0, .bool true, .bool false] 119)).next HB5.out
            have HSd : Rs w w5.drew v (.bool false) := HSa.next (below_drew (Below.refl _ _))
            have HSx : Rs w (w5.drew.alloc (Obj.cells #[.string S1, .bool true] 124)) v (.bool false) := HSd.alloc _
            have c4 := HSd.c4
            have c4x := (HSa.alloc (Obj.cells #[.string S1, .bool true] 124)).c4
            have q9 : w5.cell? ⟨wr.heap.size, 1, none⟩ = some (.bool true) := q1
            have hlit : (w5.drew.alloc (Obj.cells #[.string S1, .bool true] 124)).heap[w5.heap.size]? = some (.cells #[.string S1, .bool true] 124 (0, 0)) := by
              have := blk_new w5.drew (Obj.cells #[.string S1, .bool true] 124)
              have e : w5.drew.heap.size = w5.heap.size := rfl
              rwa [e] at this
            have hbx : Below wr.heap.size wr (w5.drew.alloc (Obj.cells #[.string S1, .bool true] 124)) := below_alloc (below_drew ((below_alloc (Below.refl _ _) _).trans (HB5.out.mono (by simp)))) _
            have hlo : (w5.drew.alloc (Obj.cells #[.string S1, .bool true] 124)).ownsRow (w.heap.size + 2) 124 2 v out.length (flat124 out) := own_below_ HO.out hbx
            have hbs : w.heap.size + 2 ≤ (w5.drew.alloc (Obj.cells #[.string S1, .bool true] 124)).heap.size := blk_lt HSx.b5
            have holen : out.length ≤ 100 := by have := HK.out.2.1; have := HJ.out; have := HL.out; omega
            have hne4 : some w.heap.size ≠ v.ownBlock := fun e => by have := own_lo HO.out _ e.symm; omega
            have hne5 : some (w.heap.size + 1) ≠ v.ownBlock := fun e => by have := own_lo HO.out _ e.symm; omega
            have HRx := Aside0.mk (Kd.R_below HRw.out hbx)
            have hmix : Try.prog.follows .mixedOrders = true := by kernel_rfl
            refine wpIn_region_any hmix ?_
            change wpAnyIn _ _ _ _ _ _ _ _ _ (World.drew _)
            refine wpAnyIn_take (i := 1) (v := .string S) rfl rfl (by kernel_rfl) (by kernel_rfl) (by kernel_rfl) (fun _ _ _ h => leaves_put (fun w => results_put _ _ _ (by decide) (by decide) w) h) ⟨Or.inl ⟨by rfl, by intro w; go_simp; done⟩, fun _ => rfl⟩ ?_
            refine wpAnyIn_take (i := 2) (v := .int .i64 m) rfl rfl (by kernel_rfl) (by kernel_rfl) (by kernel_rfl) (fun _ _ _ h => leaves_put (fun w => results_put _ _ _ (by decide) (by decide) w) h) ⟨Or.inl ⟨by rfl, by intro w; go_simp; done⟩, fun _ => rfl⟩ ?_
            refine wpAnyIn_take (i := 3) (v := .string S1) rfl rfl (by kernel_rfl) (by kernel_rfl) (by kernel_rfl) (fun _ _ _ h => leaves_put (fun w => results_put _ _ _ (by decide) (by decide) w) h) ⟨Or.inl ⟨by rfl, by intro w; go_simp; done⟩, fun _ => rfl⟩ ?_
            refine wpAnyIn_take (i := 4) (v := .pointer (some ⟨wr.heap.size, 1, none⟩)) rfl rfl (by kernel_rfl) (by kernel_rfl) (by kernel_rfl) (fun _ _ _ h => leaves_put (fun w => results_put _ _ _ (by decide) (by decide) w) h) ⟨Or.inl ⟨by rfl, by intro w; go_simp; done⟩, fun _ => rfl⟩ ?_
            refine wpAnyIn_ready (rs := [0, 5]) (by kernel_rfl) (by simp) ?_
            refine AllReadyIn.cons rfl (fun K hK => ?_) (AllReadyIn.cons rfl (fun K hK => ?_) AllReadyIn.nil)
            · go_simp
              refine hK _ _ ?_
              clear hK K
              refine wpAnyIn_ready (rs := [5]) (by kernel_rfl) (by simp) ?_
              refine AllReadyIn.cons rfl (fun K hK => ?_) AllReadyIn.nil
              go_simp
              refine hK _ _ ?_
              clear hK K
              refine wpAnyIn_take (i := 6) (v := .agg #[.string S1, .bool true]) rfl rfl (by kernel_rfl) (by kernel_rfl) (by kernel_rfl) (fun _ _ _ h => leaves_put (fun w => results_put _ _ _ (by decide) (by decide) w) h) ⟨Or.inl ⟨by rfl, by intro w; go_simp; done⟩, fun _ => rfl⟩ ?_
              refine wpAnyIn_ready (rs := [7]) (by kernel_rfl) (by simp) ?_
              refine AllReadyIn.cons rfl (fun K hK => ?_) AllReadyIn.nil
              go_simp
              refine hK _ _ ?_
              clear hK K
              refine wpAnyIn_ready (rs := [8]) (by kernel_rfl) (by simp) ?_
              refine AllReadyIn.cons rfl (fun K hK => ?_) AllReadyIn.nil
              refine step_append_124 (by rfl) _ _ rfl (w.heap.size + 2) v out (⟨S1, true⟩ : S124) (w5.heap.size) rfl rfl ?_ ?_ ?_ ?_ ?_
              · exact hlit
              · exact hlo
              · exact hbs
              · exact holen
              intro v' w' hown' hgr'
              obtain ⟨gv, cv, rfl⟩ := own_form hown' (Nat.succ_pos _)
              have HG := Aside0.mk hgr'
              have HO2 := Aside0.mk hown'
              have hS2 := HSx.grown_ hgr' hne4 hne5 (fun j e => by have := own_lo hlo j e; omega)
              have c4' := hS2.c4
              have z4' := hS2.z4
              have HS2 := Aside0.mk hS2
              clear hgr' hown' hS2
              refine hK _ _ ?_
              clear hK K
              refine wpAnyIn_ready (rs := [9]) (by kernel_rfl) (by simp) ?_
              refine AllReadyIn.cons rfl (fun K hK => ?_) AllReadyIn.nil
              go_simp
              refine hK _ _ ?_
              clear hK K
              refine wpAnyIn_done (by kernel_rfl) ?_ _
              gi_wp2
              refine ⟨⟨S2, J + 1, out ++ [⟨S1, true⟩], .slice (some ⟨gv, 0, none⟩) (out.length + 1) cv, rfl, rfl, by have := HJ.out; omega, by have := HLT.out; omega, ⟨?_, ?_, ?_⟩, ⟨HS2.out.put4 _⟩, ⟨?_⟩, ⟨?_⟩⟩, ?_⟩
              · have e : (J + 1).toNat = J.toNat + 1 := by have := HJ.out; omega
                rw [e]; exact HNX.out
              · rw [List.length_append]; have := HK.out.2.1; have := HJ.out; simp; omega
              · exact HSZ2.out
              · rw [List.length_append]; exact own_move HO2.out (fun k hk => Below.heap_setCell _ _ _ _ (fun e => by have := own_lo HO2.out k hk; simp at e; omega))
              · exact Kd.R_far (Kd.R_over' HRx.out (own_typed hlo) (by decide) HG.out) (fun k hk e => by simp at e; omega) _
              · show ((ps.length : Int) - (J + 1)).toNat < ((ps.length : Int) - J).toNat; have := HLT.out; omega
            · go_simp
              refine hK _ _ ?_
              clear hK K
              refine wpAnyIn_take (i := 6) (v := .agg #[.string S1, .bool true]) rfl rfl (by kernel_rfl) (by kernel_rfl) (by kernel_rfl) (fun _ _ _ h => leaves_put (fun w => results_put _ _ _ (by decide) (by decide) w) h) ⟨Or.inl ⟨by rfl, by intro w; go_simp; done⟩, fun _ => rfl⟩ ?_
              refine wpAnyIn_ready (rs := [0, 7]) (by kernel_rfl) (by simp) ?_
              refine AllReadyIn.cons rfl (fun K hK => ?_) (AllReadyIn.cons rfl (fun K hK => ?_) AllReadyIn.nil)
              · go_simp
                refine hK _ _ ?_
                clear hK K
                refine wpAnyIn_ready (rs := [7]) (by kernel_rfl) (by simp) ?_
                refine AllReadyIn.cons rfl (fun K hK => ?_) AllReadyIn.nil
                go_simp
                refine hK _ _ ?_
                clear hK K
                refine wpAnyIn_ready (rs := [8]) (by kernel_rfl) (by simp) ?_
                refine AllReadyIn.cons rfl (fun K hK => ?_) AllReadyIn.nil
                refine step_append_124 (by rfl) _ _ rfl (w.heap.size + 2) v out (⟨S1, true⟩ : S124) (w5.heap.size) rfl rfl ?_ ?_ ?_ ?_ ?_
                · exact hlit
                · exact hlo
                · exact hbs
                · exact holen
                intro v' w' hown' hgr'
                obtain ⟨gv, cv, rfl⟩ := own_form hown' (Nat.succ_pos _)
                have HG := Aside0.mk hgr'
                have HO2 := Aside0.mk hown'
                have hS2 := HSx.grown_ hgr' hne4 hne5 (fun j e => by have := own_lo hlo j e; omega)
                have c4' := hS2.c4
                have z4' := hS2.z4
                have HS2 := Aside0.mk hS2
                clear hgr' hown' hS2
                refine hK _ _ ?_
                clear hK K
                refine wpAnyIn_ready (rs := [9]) (by kernel_rfl) (by simp) ?_
                refine AllReadyIn.cons rfl (fun K hK => ?_) AllReadyIn.nil
                go_simp
                refine hK _ _ ?_
                clear hK K
                refine wpAnyIn_done (by kernel_rfl) ?_ _
                gi_wp2
                refine ⟨⟨S2, J + 1, out ++ [⟨S1, true⟩], .slice (some ⟨gv, 0, none⟩) (out.length + 1) cv, rfl, rfl, by have := HJ.out; omega, by have := HLT.out; omega, ⟨?_, ?_, ?_⟩, ⟨HS2.out.put4 _⟩, ⟨?_⟩, ⟨?_⟩⟩, ?_⟩
                · have e : (J + 1).toNat = J.toNat + 1 := by have := HJ.out; omega
                  rw [e]; exact HNX.out
                · rw [List.length_append]; have := HK.out.2.1; have := HJ.out; simp; omega
                · exact HSZ2.out
                · rw [List.length_append]; exact own_move HO2.out (fun k hk => Below.heap_setCell _ _ _ _ (fun e => by have := own_lo HO2.out k hk; simp at e; omega))
                · exact Kd.R_far (Kd.R_over' HRx.out (own_typed hlo) (by decide) HG.out) (fun k hk e => by simp at e; omega) _
                · show ((ps.length : Int) - (J + 1)).toNat < ((ps.length : Int) - J).toNat; have := HLT.out; omega
              · go_simp
                refine hK _ _ ?_
                clear hK K
                refine wpAnyIn_ready (rs := [0]) (by kernel_rfl) (by simp) ?_
                refine AllReadyIn.cons rfl (fun K hK => ?_) AllReadyIn.nil
                go_simp
                refine hK _ _ ?_
                clear hK K
                refine wpAnyIn_ready (rs := [8]) (by kernel_rfl) (by simp) ?_
                refine AllReadyIn.cons rfl (fun K hK => ?_) AllReadyIn.nil
                refine step_append_124 (by rfl) _ _ rfl (w.heap.size + 2) v out (⟨S1, true⟩ : S124) (w5.heap.size) rfl rfl ?_ ?_ ?_ ?_ ?_
                · exact hlit
                · exact hlo
                · exact hbs
                · exact holen
                intro v' w' hown' hgr'
                obtain ⟨gv, cv, rfl⟩ := own_form hown' (Nat.succ_pos _)
                have HG := Aside0.mk hgr'
                have HO2 := Aside0.mk hown'
                have hS2 := HSx.grown_ hgr' hne4 hne5 (fun j e => by have := own_lo hlo j e; omega)
                have c4' := hS2.c4
                have z4' := hS2.z4
                have HS2 := Aside0.mk hS2
                clear hgr' hown' hS2
                refine hK _ _ ?_
                clear hK K
                refine wpAnyIn_ready (rs := [9]) (by kernel_rfl) (by simp) ?_
                refine AllReadyIn.cons rfl (fun K hK => ?_) AllReadyIn.nil
                go_simp
                refine hK _ _ ?_
                clear hK K
                refine wpAnyIn_done (by kernel_rfl) ?_ _
                gi_wp2
                refine ⟨⟨S2, J + 1, out ++ [⟨S1, true⟩], .slice (some ⟨gv, 0, none⟩) (out.length + 1) cv, rfl, rfl, by have := HJ.out; omega, by have := HLT.out; omega, ⟨?_, ?_, ?_⟩, ⟨HS2.out.put4 _⟩, ⟨?_⟩, ⟨?_⟩⟩, ?_⟩
                · have e : (J + 1).toNat = J.toNat + 1 := by have := HJ.out; omega
                  rw [e]; exact HNX.out
                · rw [List.length_append]; have := HK.out.2.1; have := HJ.out; simp; omega
                · exact HSZ2.out
                · rw [List.length_append]; exact own_move HO2.out (fun k hk => Below.heap_setCell _ _ _ _ (fun e => by have := own_lo HO2.out k hk; simp at e; omega))
                · exact Kd.R_far (Kd.R_over' HRx.out (own_typed hlo) (by decide) HG.out) (fun k hk e => by simp at e; omega) _
                · show ((ps.length : Int) - (J + 1)).toNat < ((ps.length : Int) - J).toNat; have := HLT.out; omega
        | false =>
          by_cases hsz : (S.size : Int) < f0
          · have d2 : decide ((S.size : Int) < f0) = true := decide_eq_true hsz
            have HNX : Aside0 (none = R) := ⟨by rw [← hk]; simp [splitGo, hsz]⟩
            clear hk h0 h1 hlt hpo hsz
            gi_wp2_with (first | (show Fence.wide.fn 116 ∧ _; refine ⟨trivial, ?_⟩))
            have hSp := HS.out.alloc (Obj.cells #[.int .i64 f0, .bool false, .bool false] 119)
            refine leavesIn_cons (f := 115) (args := #[.pointer (some ⟨w.heap.size, 0, none⟩), .pointer (some ⟨w.heap.size + 1, 0, none⟩)]) (by simp) (fun _ => by omega) (by simp [go_sem]) (fun _ _ => trivial) ?_
            refine (split1_catch (n - 1) _ _ _ _ _ (by omega) hSp.b4 hSp.b5 []).mono ?_
            rintro e u' w'' ⟨rfl, rfl, rfl⟩
            have hSf := ((hSp.alloc (Obj.cells #[] 148)).put4 (.slice none 0 0)).put5 (.bool false)
            rw [← HNX.out]
            exact ⟨_, results97 rfl rfl hSf.c4 hSf.c5, _, rfl, World.ownsRow_nil _ _ _ _, hSf.below⟩
          · have d2 : decide ((S.size : Int) < f0) = false := decide_eq_false hsz
            have hf0 := hpo.2.1
            have hs1 := str_to S f0 (by omega) (by omega)
            have hs2 := str_from S f0 (by omega) (by omega)
            obtain ⟨S1, hS1⟩ : ∃ S1, S1 = S.extract 0 (f0).toNat := ⟨_, rfl⟩
            obtain ⟨S2, hS2⟩ : ∃ S2, S2 = S.extract (f0).toNat S.size := ⟨_, rfl⟩
            have HSZ2 : Aside0 (S2.size ≤ 100000000000) := ⟨by rw [hS2, ByteArray.size_extract]; have := HK.out.2.2; omega⟩
            have HNX : Aside0 (splitGo (ps.drop (J.toNat + 1)) S2 (out ++ [⟨S1, false⟩]) = R) := ⟨by rw [← hk, hS1, hS2]; simp [splitGo, hsz]⟩
            rw [← hS1] at hs1
            rw [← hS2] at hs2
            clear hk h0 h1 hlt hpo hsz hS1 hS2 hf0
            gi_wp2_with (first | (show Fence.wide.fn 116 ∧ _; refine ⟨trivial, ?_⟩))
            have HSa := HS.out.alloc (Obj.cells #[.int .i64 f0, .bool false, .bool false] 119)
            have HSd : Rs w (wr.alloc (Obj.cells #[.int .i64 f0, .bool false, .bool false] 119)).drew v (.bool false) := HSa.next (below_drew (Below.refl _ _))
            have HSx : Rs w ((wr.alloc (Obj.cells #[.int .i64 f0, .bool false, .bool false] 119)).drew.alloc (Obj.cells #[.string S1, .bool false] 124)) v (.bool false) := HSd.alloc _
            have c4 := HSd.c4
            have c4x := (HSa.alloc (Obj.cells #[.string S1, .bool false] 124)).c4
            have q9 : (wr.alloc (Obj.cells #[.int .i64 f0, .bool false, .bool false] 119)).cell? ⟨wr.heap.size, 1, none⟩ = some (.bool false) := (blk_cell (blk_new wr _) 1).trans rfl
            have hlit : ((wr.alloc (Obj.cells #[.int .i64 f0, .bool false, .bool false] 119)).drew.alloc (Obj.cells #[.string S1, .bool false] 124)).heap[wr.heap.size + 1]? = some (.cells #[.string S1, .bool false] 124 (0, 0)) := by
              have := blk_new (wr.alloc (Obj.cells #[.int .i64 f0, .bool false, .bool false] 119)).drew (Obj.cells #[.string S1, .bool false] 124)
              have e : (wr.alloc (Obj.cells #[.int .i64 f0, .bool false, .bool false] 119)).drew.heap.size = wr.heap.size + 1 := World.size_alloc _ _
              rwa [e] at this
            have hbx : Below wr.heap.size wr ((wr.alloc (Obj.cells #[.int .i64 f0, .bool false, .bool false] 119)).drew.alloc (Obj.cells #[.string S1, .bool false] 124)) := below_alloc (below_drew (below_alloc (Below.refl _ _) _)) _
            have hlo : ((wr.alloc (Obj.cells #[.int .i64 f0, .bool false, .bool false] 119)).drew.alloc (Obj.cells #[.string S1, .bool false] 124)).ownsRow (w.heap.size + 2) 124 2 v out.length (flat124 out) := own_below_ HO.out hbx
            have hbs : w.heap.size + 2 ≤ ((wr.alloc (Obj.cells #[.int .i64 f0, .bool false, .bool false] 119)).drew.alloc (Obj.cells #[.string S1, .bool false] 124)).heap.size := blk_lt HSx.b5
            have holen : out.length ≤ 100 := by have := HK.out.2.1; have := HJ.out; have := HL.out; omega
            have hne4 : some w.heap.size ≠ v.ownBlock := fun e => by have := own_lo HO.out _ e.symm; omega
            have hne5 : some (w.heap.size + 1) ≠ v.ownBlock := fun e => by have := own_lo HO.out _ e.symm; omega
            have HRx := Aside0.mk (Kd.R_below HRw.out hbx)
            have hmix : Try.prog.follows .mixedOrders = true := by kernel_rfl
            refine wpIn_region_any hmix ?_
            change wpAnyIn _ _ _ _ _ _ _ _ _ (World.drew _)
            refine wpAnyIn_take (i := 1) (v := .string S) rfl rfl (by kernel_rfl) (by kernel_rfl) (by kernel_rfl) (fun _ _ _ h => leaves_put (fun w => results_put _ _ _ (by decide) (by decide) w) h) ⟨Or.inl ⟨by rfl, by intro w; go_simp; done⟩, fun _ => rfl⟩ ?_
            refine wpAnyIn_take (i := 2) (v := .int .i64 f0) rfl rfl (by kernel_rfl) (by kernel_rfl) (by kernel_rfl) (fun _ _ _ h => leaves_put (fun w => results_put _ _ _ (by decide) (by decide) w) h) ⟨Or.inl ⟨by rfl, by intro w; go_simp; done⟩, fun _ => rfl⟩ ?_
            refine wpAnyIn_take (i := 3) (v := .string S1) rfl rfl (by kernel_rfl) (by kernel_rfl) (by kernel_rfl) (fun _ _ _ h => leaves_put (fun w => results_put _ _ _ (by decide) (by decide) w) h) ⟨Or.inl ⟨by rfl, by intro w; go_simp; done⟩, fun _ => rfl⟩ ?_
            refine wpAnyIn_take (i := 4) (v := .pointer (some ⟨wr.heap.size, 1, none⟩)) rfl rfl (by kernel_rfl) (by kernel_rfl) (by kernel_rfl) (fun _ _ _ h => leaves_put (fun w => results_put _ _ _ (by decide) (by decide) w) h) ⟨Or.inl ⟨by rfl, by intro w; go_simp; done⟩, fun _ => rfl⟩ ?_
            refine wpAnyIn_ready (rs := [0, 5]) (by kernel_rfl) (by simp) ?_
            refine AllReadyIn.cons rfl (fun K hK => ?_) (AllReadyIn.cons rfl (fun K hK => ?_) AllReadyIn.nil)
            · go_simp
              refine hK _ _ ?_
              clear hK K
              refine wpAnyIn_ready (rs := [5]) (by kernel_rfl) (by simp) ?_
              refine AllReadyIn.cons rfl (fun K hK => ?_) AllReadyIn.nil
              go_simp
              refine hK _ _ ?_
              clear hK K
              refine wpAnyIn_take (i := 6) (v := .agg #[.string S1, .bool false]) rfl rfl (by kernel_rfl) (by kernel_rfl) (by kernel_rfl) (fun _ _ _ h => leaves_put (fun w => results_put _ _ _ (by decide) (by decide) w) h) ⟨Or.inl ⟨by rfl, by intro w; go_simp; done⟩, fun _ => rfl⟩ ?_
              refine wpAnyIn_ready (rs := [7]) (by kernel_rfl) (by simp) ?_
              refine AllReadyIn.cons rfl (fun K hK => ?_) AllReadyIn.nil
              go_simp
              refine hK _ _ ?_
              clear hK K
              refine wpAnyIn_ready (rs := [8]) (by kernel_rfl) (by simp) ?_
              refine AllReadyIn.cons rfl (fun K hK => ?_) AllReadyIn.nil
              refine step_append_124 (by rfl) _ _ rfl (w.heap.size + 2) v out (⟨S1, false⟩ : S124) (wr.heap.size + 1) rfl rfl ?_ ?_ ?_ ?_ ?_
              · exact hlit
              · exact hlo
              · exact hbs
              · exact holen
              intro v' w' hown' hgr'
              obtain ⟨gv, cv, rfl⟩ := own_form hown' (Nat.succ_pos _)
              have HG := Aside0.mk hgr'
              have HO2 := Aside0.mk hown'
              have hS2 := HSx.grown_ hgr' hne4 hne5 (fun j e => by have := own_lo hlo j e; omega)
              have c4' := hS2.c4
              have z4' := hS2.z4
              have HS2 := Aside0.mk hS2
              clear hgr' hown' hS2
              refine hK _ _ ?_
              clear hK K
              refine wpAnyIn_ready (rs := [9]) (by kernel_rfl) (by simp) ?_
              refine AllReadyIn.cons rfl (fun K hK => ?_) AllReadyIn.nil
              go_simp
              refine hK _ _ ?_
              clear hK K
              refine wpAnyIn_done (by kernel_rfl) ?_ _
              gi_wp2
              refine ⟨⟨S2, J + 1, out ++ [⟨S1, false⟩], .slice (some ⟨gv, 0, none⟩) (out.length + 1) cv, rfl, rfl, by have := HJ.out; omega, by have := HLT.out; omega, ⟨?_, ?_, ?_⟩, ⟨HS2.out.put4 _⟩, ⟨?_⟩, ⟨?_⟩⟩, ?_⟩
              · have e : (J + 1).toNat = J.toNat + 1 := by have := HJ.out; omega
                rw [e]; exact HNX.out
              · rw [List.length_append]; have := HK.out.2.1; have := HJ.out; simp; omega
              · exact HSZ2.out
              · rw [List.length_append]; exact own_move HO2.out (fun k hk => Below.heap_setCell _ _ _ _ (fun e => by have := own_lo HO2.out k hk; simp at e; omega))
              · exact Kd.R_far (Kd.R_over' HRx.out (own_typed hlo) (by decide) HG.out) (fun k hk e => by simp at e; omega) _
              · show ((ps.length : Int) - (J + 1)).toNat < ((ps.length : Int) - J).toNat; have := HLT.out; omega
            · go_simp
              refine hK _ _ ?_
              clear hK K
              refine wpAnyIn_take (i := 6) (v := .agg #[.string S1, .bool false]) rfl rfl (by kernel_rfl) (by kernel_rfl) (by kernel_rfl) (fun _ _ _ h => leaves_put (fun w => results_put _ _ _ (by decide) (by decide) w) h) ⟨Or.inl ⟨by rfl, by intro w; go_simp; done⟩, fun _ => rfl⟩ ?_
              refine wpAnyIn_ready (rs := [0, 7]) (by kernel_rfl) (by simp) ?_
              refine AllReadyIn.cons rfl (fun K hK => ?_) (AllReadyIn.cons rfl (fun K hK => ?_) AllReadyIn.nil)
              · go_simp
                refine hK _ _ ?_
                clear hK K
                refine wpAnyIn_ready (rs := [7]) (by kernel_rfl) (by simp) ?_
                refine AllReadyIn.cons rfl (fun K hK => ?_) AllReadyIn.nil
                go_simp
                refine hK _ _ ?_
                clear hK K
                refine wpAnyIn_ready (rs := [8]) (by kernel_rfl) (by simp) ?_
                refine AllReadyIn.cons rfl (fun K hK => ?_) AllReadyIn.nil
                refine step_append_124 (by rfl) _ _ rfl (w.heap.size + 2) v out (⟨S1, false⟩ : S124) (wr.heap.size + 1) rfl rfl ?_ ?_ ?_ ?_ ?_
                · exact hlit
                · exact hlo
                · exact hbs
                · exact holen
                intro v' w' hown' hgr'
                obtain ⟨gv, cv, rfl⟩ := own_form hown' (Nat.succ_pos _)
                have HG := Aside0.mk hgr'
                have HO2 := Aside0.mk hown'
                have hS2 := HSx.grown_ hgr' hne4 hne5 (fun j e => by have := own_lo hlo j e; omega)
                have c4' := hS2.c4
                have z4' := hS2.z4
                have HS2 := Aside0.mk hS2
                clear hgr' hown' hS2
                refine hK _ _ ?_
                clear hK K
                refine wpAnyIn_ready (rs := [9]) (by kernel_rfl) (by simp) ?_
                refine AllReadyIn.cons rfl (fun K hK => ?_) AllReadyIn.nil
                go_simp
                refine hK _ _ ?_
                clear hK K
                refine wpAnyIn_done (by kernel_rfl) ?_ _
                gi_wp2
                refine ⟨⟨S2, J + 1, out ++ [⟨S1, false⟩], .slice (some ⟨gv, 0, none⟩) (out.length + 1) cv, rfl, rfl, by have := HJ.out; omega, by have := HLT.out; omega, ⟨?_, ?_, ?_⟩, ⟨HS2.out.put4 _⟩, ⟨?_⟩, ⟨?_⟩⟩, ?_⟩
                · have e : (J + 1).toNat = J.toNat + 1 := by have := HJ.out; omega
                  rw [e]; exact HNX.out
                · rw [List.length_append]; have := HK.out.2.1; have := HJ.out; simp; omega
                · exact HSZ2.out
                · rw [List.length_append]; exact own_move HO2.out (fun k hk => Below.heap_setCell _ _ _ _ (fun e => by have := own_lo HO2.out k hk; simp at e; omega))
                · exact Kd.R_far (Kd.R_over' HRx.out (own_typed hlo) (by decide) HG.out) (fun k hk e => by simp at e; omega) _
                · show ((ps.length : Int) - (J + 1)).toNat < ((ps.length : Int) - J).toNat; have := HLT.out; omega
              · go_simp
                refine hK _ _ ?_
                clear hK K
                refine wpAnyIn_ready (rs := [0]) (by kernel_rfl) (by simp) ?_
                refine AllReadyIn.cons rfl (fun K hK => ?_) AllReadyIn.nil
                go_simp
                refine hK _ _ ?_
                clear hK K
                refine wpAnyIn_ready (rs := [8]) (by kernel_rfl) (by simp) ?_
                refine AllReadyIn.cons rfl (fun K hK => ?_) AllReadyIn.nil
                refine step_append_124 (by rfl) _ _ rfl (w.heap.size + 2) v out (⟨S1, false⟩ : S124) (wr.heap.size + 1) rfl rfl ?_ ?_ ?_ ?_ ?_
                · exact hlit
                · exact hlo
                · exact hbs
                · exact holen
                intro v' w' hown' hgr'
                obtain ⟨gv, cv, rfl⟩ := own_form hown' (Nat.succ_pos _)
                have HG := Aside0.mk hgr'
                have HO2 := Aside0.mk hown'
                have hS2 := HSx.grown_ hgr' hne4 hne5 (fun j e => by have := own_lo hlo j e; omega)
                have c4' := hS2.c4
                have z4' := hS2.z4
                have HS2 := Aside0.mk hS2
                clear hgr' hown' hS2
                refine hK _ _ ?_
                clear hK K
                refine wpAnyIn_ready (rs := [9]) (by kernel_rfl) (by simp) ?_
                refine AllReadyIn.cons rfl (fun K hK => ?_) AllReadyIn.nil
                go_simp
                refine hK _ _ ?_
                clear hK K
                refine wpAnyIn_done (by kernel_rfl) ?_ _
                gi_wp2
                refine ⟨⟨S2, J + 1, out ++ [⟨S1, false⟩], .slice (some ⟨gv, 0, none⟩) (out.length + 1) cv, rfl, rfl, by have := HJ.out; omega, by have := HLT.out; omega, ⟨?_, ?_, ?_⟩, ⟨HS2.out.put4 _⟩, ⟨?_⟩, ⟨?_⟩⟩, ?_⟩
                · have e : (J + 1).toNat = J.toNat + 1 := by have := HJ.out; omega
                  rw [e]; exact HNX.out
                · rw [List.length_append]; have := HK.out.2.1; have := HJ.out; simp; omega
                · exact HSZ2.out
                · rw [List.length_append]; exact own_move HO2.out (fun k hk => Below.heap_setCell _ _ _ _ (fun e => by have := own_lo HO2.out k hk; simp at e; omega))
                · exact Kd.R_far (Kd.R_over' HRx.out (own_typed hlo) (by decide) HG.out) (fun k hk e => by simp at e; omega) _
                · show ((ps.length : Int) - (J + 1)).toNat < ((ps.length : Int) - J).toNat; have := HLT.out; omega
    · have d1 : decide (J < (ps.length : Int)) = false := decide_eq_false hlt
      obtain ⟨Av, nv, cv, rfl⟩ := own_slice HO.out
      have c4 := HS.out.c4
      have z4 := HS.out.z4
      have c5 := (HS.out.put4 (.slice Av nv cv)).c5
      have z5 := (HS.out.put4 (.slice Av nv cv)).z5
      have hk := HK.out.1
      have hj : J.toNat = ps.length := by omega
      rw [hj, List.drop_length] at hk
      have HNX : Aside0 (some (out, S) = R) := ⟨hk⟩
      have HSE : Aside0 (S.toList.isEmpty = decide (S.size = 0)) := ⟨by
        rw [ByteArray.toList_eq]
        have h : S.data.toList.length = S.size := rfl
        cases hl : S.data.toList with
        | nil => rw [hl] at h; simp at h; simp [← h]
        | cons x r => rw [hl] at h; simp at h; simp [← h]⟩
      clear hk h0 h1 hlt hj
      gi_wp2
      have hSp := (HS.out.put4 (.slice Av nv cv)).put5 (.bool S.toList.isEmpty)
      refine leavesIn_cons (f := 115) (args := #[.pointer (some ⟨w.heap.size, 0, none⟩), .pointer (some ⟨w.heap.size + 1, 0, none⟩)]) (by simp) (fun _ => by omega) (by simp [go_sem]) (fun _ _ => trivial) ?_
      refine (split1_idle (n - 1) _ _ _).mono ?_
      rintro e u' w'' ⟨rfl, rfl, rfl⟩
      have hSf := hSp.alloc (Obj.cells #[] 148)
      rw [← HNX.out]
      refine ⟨_, results97 rfl rfl hSf.c4 hSf.c5, _, by rw [HSE.out]; rfl, ?_, hSf.below⟩
      refine own_below_ ?_ (below_alloc (Below.refl _ _) _)
      refine RF.ownlow (own_move HO.out (fun k hk => (Below.heap_setCell _ _ _ _ (fun e => by have := own_lo HO.out k hk; simp at e; omega)).trans (Below.heap_setCell _ _ _ _ (fun e => by have := own_lo HO.out k hk; simp at e; omega)))) (by omega)

theorem partsL_ok {t : Int} {ps : List S119} (h : partsL t = some ps) : ps.length ≤ 3 ∧ ∀ p ∈ ps, (p.f2 = true → p.f1 = false) ∧ 0 ≤ p.f0 ∧ p.f0 ≤ 100 := by
  unfold partsL at h
  repeat' (split at h; · injection h with h; subst h; refine ⟨by decide, ?_⟩; intro p hp; simp at hp; rcases hp with rfl | rfl | rfl <;> decide)
  repeat' (split at h; · injection h with h; subst h; refine ⟨by decide, ?_⟩; intro p hp; simp at hp; rcases hp with rfl | rfl <;> decide)
  cases h

theorem rdata_split.calls (t : Int) (s : ByteArray) (ls : List S124) (b : Bool) (w : World) (h : rdata_split.f t s = some (ls, b)) :
    Calls Try.prog 97 #[.int .i64 t, .string s] w fun e w' => ∃ v0_ : Value, e = .returned (.tuple #[v0_, .bool b]) ∧ Kd.R k124 124 w' w.heap.size (fun _ => True) v0_ ls ∧ Below w.heap.size w w' := by
  unfold rdata_split.f at h
  by_cases hc : (Lit.int .i64 t).wf = true ∧ s.size ≤ 100000000000
  · rw [if_pos hc] at h
    injection h with h
    unfold splitR at h
    cases hp : partsL t with
    | none =>
      rw [hp] at h
      cases h
      refine (callsIn_wide.1 (rdata_split.any 5 (by omega) t hc.1 hp s w)).mono ?_
      rintro e w' ⟨v, rfl, ho, hb⟩
      exact ⟨v, rfl, R124_of_own ho, hb⟩
    | some ps =>
      rw [hp] at h
      replace h : spAns (splitGo ps s []) = (ls, b) := h
      have hok := partsL_ok hp
      refine (callsIn_wide.1 (rdata_split.known 5 (by omega) t hc.1 ps hp hok.1 hok.2 s hc.2 _ rfl w)).mono ?_
      rw [h]
      rintro e w' ⟨v, rfl, ho, hb⟩
      exact ⟨v, rfl, R124_of_own ho, hb⟩
  · rw [if_neg hc] at h; cases h
end Go.Proofs.Ytjjbhpbmfpodeaa.X
end
section
namespace Go.Proofs.Ytjjbhpbmfpodeaa.X
open Go.RowKit Go.Proofs.YtjjbhpbmfpodeaaW.PrintWords Go.Proofs.YtjjbhpbmfpodeaaW.PrintLast Go.Proofs.YtjjbhpbmfpodeaaW.PrintMore
attribute [local go_sem] max2_int min2_int max_two min_two max_three min_three max_four min_four   -- for this text's walks alone
set_option linter.unusedVariables false
set_option linter.unusedSimpArgs false

/-! ### rdata_Check: function 58 -/
def rdata_Check.j0 : Nat → Int → ByteArray → Bool → Option (Int)
  | 0, _, _, _ => none
  | k + 1, x0, x1, x7 => if x7 = true then (some 5) else (if (x1.size : Int) > 65535 then (some 3) else ((rdata_split.f x0 x1).bind fun bt101 => (if bt101.2 = true then (some 0) else (some 4))))
def rdata_Check.f (k : Nat) (a0 : Int) (a1 : ByteArray) : Option (Int) := if a0 < 0 then (rdata_Check.j0 k a0 a1 true) else (rdata_Check.j0 k a0 a1 (decide (a0 > 65535)))
theorem rdata_Check.mono_l : ∀ k, (∀ y0 y1 y2, LeO (rdata_Check.j0 k y0 y1 y2) (rdata_Check.j0 (k + 1) y0 y1 y2))
  | 0 => fun _ _ _ r h => by simp [rdata_Check.j0] at h
  | k + 1 => by
    have ih0 := rdata_Check.mono_l k
    · intro y0 y1 y2
      unfold rdata_Check.j0
      repeat' first
      | (with_reducible exact ih0 _ _ _)
      | (with_reducible exact LeO.refl _)
      | (with_reducible exact LeO.none _)
      | (with_reducible refine LeO.ite ?_ ?_)
      | (with_reducible refine LeO.bind ?_ (fun _ => ?_))
      | exact ih0 _ _ _
      | exact LeO.none _
      | refine LeO.ite ?_ ?_
      | refine LeO.bind ?_ (fun _ => ?_)
theorem rdata_Check.mono : ∀ a0 a1 k, LeO (rdata_Check.f k a0 a1) (rdata_Check.f (k + 1) a0 a1) := by
  intro a0 a1 k
  have ih0 := rdata_Check.mono_l k
  unfold rdata_Check.f
  repeat' first
      | (with_reducible exact ih0 _ _ _)
      | (with_reducible exact LeO.refl _)
      | (with_reducible exact LeO.none _)
      | (with_reducible refine LeO.ite ?_ ?_)
      | (with_reducible refine LeO.bind ?_ (fun _ => ?_))
      | exact ih0 _ _ _
      | exact LeO.none _
      | refine LeO.ite ?_ ?_
      | refine LeO.bind ?_ (fun _ => ?_)
set_option maxHeartbeats 8000000 in
set_option maxRecDepth 100000 in
theorem rdata_Check.calls (k : Nat) (a0 : Int) (a1 : ByteArray) (r : Int) (w : World) (h : rdata_Check.f k a0 a1 = some r) :
    Calls Try.prog 58 #[.int .i64 a0, .string a1] w fun e w' => e = .returned (.int .i64 r) ∧ Below w.heap.size w w' := by
  have HB := Aside0.mk (Below.refl w.heap.size w)
  have H : (if a0 < 0 then (rdata_Check.j0 k a0 a1 true) else (rdata_Check.j0 k a0 a1 (decide (a0 > 65535)))) = some r := h
  clear h
  have HC3 := Aside0.mk H
  clear H
  go_enter Try.func58, Try.ntmps58
  go_upto_region 1 with (fail)
  go_cut [7] (fun v7 wc => ∃ (kq : Nat) (x7_2 : Bool), v7 = .bool x7_2 ∧ Aside0 (rdata_Check.j0 kq a0 a1 x7_2 = some r) ∧ Aside0 (kq ≤ k) ∧ Aside0 (Below w.heap.size w wc))
  case first =>
    have H := HC3.out
    clear HC3
    by_cases c4 : a0 < 0
    · rw [if_pos c4] at H
      have c4b0 : decide (a0 < 0) = true := decide_eq_true c4
      clear c4
      (first | rw [c4b0] | (simp only [i64_w, i32_w]; rw [c4b0]) | skip)
      have H' := Aside0.mk H
      clear H
      go_wp2
      go_meet
      case rel => exact ⟨_, (true), (by first | rfl | (simp; done) | (simp [*]; done)), H', ⟨by first | omega | exact Nat.le_refl _⟩, ⟨by repeat (first | (with_reducible first | exact HB.out | apply below_alloc | apply pw_below_drewN | apply below_drew1) | exact HB.out)⟩⟩
    · rw [if_neg c4] at H
      have c4b0 : decide (a0 < 0) = false := decide_eq_false c4
      clear c4
      (first | rw [c4b0] | (simp only [i64_w, i32_w]; rw [c4b0]) | skip)
      have H' := Aside0.mk H
      clear H
      go_wp2
      go_meet
      case rel => exact ⟨_, (decide (a0 > 65535)), (by first | rfl | (simp; done) | (simp [*]; done)), H', ⟨by first | omega | exact Nat.le_refl _⟩, ⟨by repeat (first | (with_reducible first | exact HB.out | apply below_alloc | apply pw_below_drewN | apply below_drew1) | exact HB.out)⟩⟩
  case rest =>
    clear HC3
    try clear p2
    try clear c4
    try clear c4b0
    obtain ⟨kq, x7_2, rfl, HA, HJ2, HB⟩ := hcut
    cases kq with
    | zero => exact absurd HA.out (by simp [rdata_Check.j0])
    | succ kj2 =>
      have H := HA.out
      clear HA
      simp only [rdata_Check.j0] at H
      by_cases c5 : x7_2 = true
      · subst c5
        have H1 : (some 5) = some r := by rw [if_pos rfl] at H; exact H
        clear H
        have H := H1
        clear H1
        obtain rfl := Option.some.inj H
        go_wp2
        go_ret
        exact ⟨by first | rfl | (simp [errW_none, errW_some] <;> rfl) | (simp [*, errW_none, errW_some] <;> rfl), by repeat (first | (with_reducible first | exact HB.out | apply below_alloc | apply pw_below_drewN | apply below_drew1) | exact HB.out)⟩
      · replace c5 := Bool.eq_false_iff.mpr c5
        subst c5
        have H1 : (if (a1.size : Int) > 65535 then (some 3) else ((rdata_split.f a0 a1).bind fun bt101 => (if bt101.2 = true then (some 0) else (some 4)))) = some r := by rw [if_neg (show ¬ (false = true) by decide)] at H; exact H
        clear H
        have H := H1
        clear H1
        by_cases c6 : (a1.size : Int) > 65535
        · rw [if_pos c6] at H
          have c6b0 : decide (65535 < (a1.size : Int)) = true := decide_eq_true c6
          have c6b1 : decide (65535 < a1.size) = true := decide_eq_true (by omega)
          clear c6
          obtain rfl := Option.some.inj H
          go_wp2
          go_ret
          exact ⟨by first | rfl | (simp [errW_none, errW_some] <;> rfl) | (simp [*, errW_none, errW_some] <;> rfl), by repeat (first | (with_reducible first | exact HB.out | apply below_alloc | apply pw_below_drewN | apply below_drew1) | exact HB.out)⟩
        · rw [if_neg c6] at H
          have c6b0 : decide (65535 < (a1.size : Int)) = false := decide_eq_false c6
          have c6b1 : decide (65535 < a1.size) = false := decide_eq_false (by omega)
          clear c6
          replace H := Option.bind_eq_some_iff.mp H
          obtain ⟨⟨t101, t102⟩, A70, H⟩ := H
          replace H : (if t102 = true then (some 0) else (some 4)) = some r := H
          have A7 := Aside0.mk A70
          clear A70
          by_cases c8 : t102 = true
          · subst c8
            have H1 : (some 0) = some r := by rw [if_pos rfl] at H; exact H
            clear H
            have H := H1
            clear H1
            obtain rfl := Option.some.inj H
            go_wp2_with (first | ((with_reducible refine gate_callee (f := 97) rfl ?_); refine goesL_ (some 21) rfl rfl Try.func97 (by kernel_rfl) rfl #[.int .i64 a0, .string a1] rfl (by (try simp only [List.map_toArray, List.map_cons, List.map_nil]); first | done | rfl | (simp only [List.length_drop, List.length_take]; rfl)) ?_; (with_reducible refine (rdata_split.calls a0 a1 t101 true _ A7.out).mono ?_); rintro e w9 ⟨v103, rfl, ho0, hb⟩; refine ⟨_, rfl, ?_⟩; have n0_ := Aside0.mk (Kd.R_lower ho0 (below_size (by repeat (first | (with_reducible first | exact HB.out | apply below_alloc | apply pw_below_drewN | apply below_drew1) | exact HB.out)))); have n1_ := Aside0.mk (below_step (by repeat (first | (with_reducible first | exact HB.out | apply below_alloc | apply pw_below_drewN | apply below_drew1) | exact HB.out)) hb); clear HB; have HO104 := n0_; have HB := n1_; clear n0_ n1_; (try clear hb); (try clear hb2); (try clear hk); (try clear hi); (try clear ho0)))
            go_ret
            exact ⟨by first | rfl | (simp [errW_none, errW_some] <;> rfl) | (simp [*, errW_none, errW_some] <;> rfl), by repeat (first | (with_reducible first | exact HB.out | apply below_alloc | apply pw_below_drewN | apply below_drew1) | exact HB.out)⟩
          · replace c8 := Bool.eq_false_iff.mpr c8
            subst c8
            have H1 : (some 4) = some r := by rw [if_neg (show ¬ (false = true) by decide)] at H; exact H
            clear H
            have H := H1
            clear H1
            obtain rfl := Option.some.inj H
            go_wp2_with (first | ((with_reducible refine gate_callee (f := 97) rfl ?_); refine goesL_ (some 21) rfl rfl Try.func97 (by kernel_rfl) rfl #[.int .i64 a0, .string a1] rfl (by (try simp only [List.map_toArray, List.map_cons, List.map_nil]); first | done | rfl | (simp only [List.length_drop, List.length_take]; rfl)) ?_; (with_reducible refine (rdata_split.calls a0 a1 t101 false _ A7.out).mono ?_); rintro e w10 ⟨v103, rfl, ho0, hb⟩; refine ⟨_, rfl, ?_⟩; have n0_ := Aside0.mk (Kd.R_lower ho0 (below_size (by repeat (first | (with_reducible first | exact HB.out | apply below_alloc | apply pw_below_drewN | apply below_drew1) | exact HB.out)))); have n1_ := Aside0.mk (below_step (by repeat (first | (with_reducible first | exact HB.out | apply below_alloc | apply pw_below_drewN | apply below_drew1) | exact HB.out)) hb); clear HB; have HO104 := n0_; have HB := n1_; clear n0_ n1_; (try clear hb); (try clear hb2); (try clear hk); (try clear hi); (try clear ho0)))
            go_ret
            exact ⟨by first | rfl | (simp [errW_none, errW_some] <;> rfl) | (simp [*, errW_none, errW_some] <;> rfl), by repeat (first | (with_reducible first | exact HB.out | apply below_alloc | apply pw_below_drewN | apply below_drew1) | exact HB.out)⟩

end Go.Proofs.Ytjjbhpbmfpodeaa.X
end
