import Derived.Test.YtjjbhpbmfpodeaaH93it
namespace Go.Proofs.Ytjjbhpbmfpodeaa.X
open Go.RowKit Go.Shelf Go.Proofs.YtjjbhpbmfpodeaaW.PrintWords Go.Proofs.YtjjbhpbmfpodeaaW.PrintLast Go.Proofs.YtjjbhpbmfpodeaaW.PrintMore
set_option linter.unusedVariables false
set_option linter.unusedSimpArgs false
attribute [local go_sem] Oper.semAt_some

theorem RF.results_cell2 {fn : Func} {p q : Tmp} {w : World} (h : fn.results = #[.cell p 50, .cell q 23]) (tmps : Array Value) {A B : Addr} {u v : Value} (hp : tmps.getD p undef = .pointer (some A)) (hq : tmps.getD q undef = .pointer (some B)) (hA : w.cell? A = some u) (hB : w.cell? B = some v) :
    (results fn tmps).run Try.prog w = .ok (.tuple #[u, v]) w := by
  have e1 : (loadVar 50 A).run Try.prog w = .ok u w := by simp [loadVar, go_sem, hA]
  have e2 : (loadVar 23 B).run Try.prog w = .ok v w := by simp [loadVar, go_sem, hB]
  simp only [Array.getD_eq_getD_getElem?] at hp hq
  simp only [results, h]
  simp [Sem.run_bind, Result.andThen, hp, hq, asAddr, e1, e2]

theorem RF.ownlow {w : World} {b b' : Nat} {e : TypeId} {sz n : Nat} {v : Value} {xs : List Value} (h : w.ownsRow b e sz v n xs) (hb : b' ≤ b) : w.ownsRow b' e sz v n xs := by
  obtain ⟨h1, h2⟩ := h
  refine ⟨h1, ?_⟩
  rcases h2 with h2 | ⟨g, cap, cur, rfl, hg, r⟩
  · exact .inl h2
  · exact .inr ⟨g, cap, cur, rfl, by omega, r⟩

theorem RF.grownBy_drewN (A : World) (m : Nat) : A.grownBy (A.drewN m) none := by
  induction m with
  | zero => exact ⟨rfl, rfl, rfl, Nat.le_refl _, fun _ _ _ => rfl⟩
  | succ m ih => exact ⟨ih.os, ih.tape, ih.output, ih.size, ih.block⟩

theorem lbEvs_len (k : Nat) (s : ByteArray) : (lbEvs k s).length ≤ k := by
  induction k generalizing s with
  | zero => simp [lbEvs]
  | succ k ih =>
    rw [lbEvs]
    split
    · simp
    · split
      · simp
      · simp only [List.length_cons]; have := ih (lbRest s); omega

/-- What name.Labels tells: none where the name is too long to speak of. -/
def name_Labels.f (s : ByteArray) : Option (List ByteArray × Int) :=
  if s.size ≤ 2000000 then
    some (if (lbEvs (s.size + 1) s).all (·.2) = true then (if 255 < s.size then ([], 3) else ((lbEvs (s.size + 1) s).map (·.1), 0)) else ([], 4))
  else none

theorem info50e : (Try.prog.info? 9).map (fun i => (i.zero, i.size, i.bytes)) = some (some (.string ⟨#[]⟩), 1, 16) := by kernel_rfl

set_option maxHeartbeats 4000000 in
set_option maxRecDepth 100000 in
theorem name_Labels.in_ (n : Nat) (hn : 4 ≤ n) (s : ByteArray) (hs : s.size ≤ 2000000) (w : World) :
    CallsIn Fence.wide n Try.prog 93 #[.string s] w fun e w' => ∃ (v : Value) (ls : List ByteArray) (c : Int), name_Labels.f s = some (ls, c) ∧ e = .returned (.tuple #[v, .int .i64 c]) ∧
      w'.ownsRow w.heap.size 9 1 v ls.length (ls.map Value.string) ∧ Below w.heap.size w w' := by
  have h1 : 1 ≤ n := by omega
  obtain ⟨i0, hi, hz0, hz1, hz2⟩ := info_parts info50e
  refine callsIn_of_wp_marks Try.func93 rfl trivial ?_ rfl
  simp only [Try.ntmps93, List.size_toArray, List.length_cons, List.length_nil, Nat.reduceAdd, Nat.reduceSub, Array.replicate_succ, Array.replicate_zero, List.push_toArray, List.append_toArray, List.nil_append, List.cons_append]
  gi_wp2_with (refine ⟨trivial, ?_⟩; refine (all_in (n - 1) _ _).mono ?_; rintro e w' ⟨rfl, rfl⟩)
  obtain ⟨W0, hW0⟩ : ∃ W0, W0 = (((w.alloc (Obj.cells #[Value.slice none 0 0] 50)).alloc (Obj.cells #[Value.int IntKind.i64 0] 23)).alloc (Obj.cells #[Value.slice none 0 0] 50)).alloc (Obj.cells #[Value.string s] 9) := ⟨_, rfl⟩
  rw [← hW0]
  have hsz : W0.heap.size = w.heap.size + 4 := by rw [hW0]; simp
  have bR : Boxed W0 w.heap.size 50 (.slice none 0 0) := by rw [hW0]; exact (((Boxed.new w 50 _).alloc _).alloc _).alloc _
  have bE : Boxed W0 (w.heap.size + 1) 23 (.int .i64 0) := by
    rw [hW0]; have := Boxed.new (w.alloc (Obj.cells #[Value.slice none 0 0] 50)) 23 (.int .i64 0); rw [World.size_alloc] at this; exact (this.alloc _).alloc _
  have bO : Boxed W0 (w.heap.size + 2) 50 (.slice none 0 0) := by
    rw [hW0]; have := Boxed.new ((w.alloc (Obj.cells #[Value.slice none 0 0] 50)).alloc (Obj.cells #[Value.int IntKind.i64 0] 23)) 50 (.slice none 0 0); simp only [World.size_alloc] at this; exact this.alloc _
  have bN : Boxed W0 (w.heap.size + 3) 9 (.string s) := by
    rw [hW0]; have := Boxed.new (((w.alloc (Obj.cells #[Value.slice none 0 0] 50)).alloc (Obj.cells #[Value.int IntKind.i64 0] 23)).alloc (Obj.cells #[Value.slice none 0 0] 50)) 9 (.string s); simp only [World.size_alloc] at this; exact this
  have hB0 : Below w.heap.size w W0 := by rw [hW0]; exact ((((Below.refl _ w).alloc (Nat.le_refl _) _).alloc (by simp) _).alloc (by simp; omega) _).alloc (by simp; omega) _
  clear hW0
  refine RF.range_cell (F := Fence.wide) rfl h1 (gf := 122) (lb := #[.pointer (some ⟨w.heap.size + 3, 0, none⟩)]) rfl trivial (enters_of Try.func122 (by kernel_rfl) rfl)
    (encs := fun x : ByteArray × Bool => #[.string x.1, .bool x.2]) (Kp := fun A B => B.heap[w.heap.size + 3]? = A.heap[w.heap.size + 3]?) (S := fun ys => ys = lbEvs (s.size + 1) s) (Sp := fun pre => pre <+: lbEvs (s.size + 1) s) (N := s.size + 1)
    (w0 := W0) (w.heap.size + 3) (by omega) ?seq (fun h k => k.trans h) (fun W l o o' hl _ _ _ => World.putObj_heap_other (by omega)) (Below.refl _ _) (fun _ => rfl)
    (fun pre W => (∃ v, Boxed W (w.heap.size + 2) 50 v ∧ W.ownsRow (w.heap.size + 4) 9 1 v pre.length (pre.map fun x => .string x.1) ∧ True) ∧ (Boxed W w.heap.size 50 (.slice none 0 0) ∧ Boxed W (w.heap.size + 1) 23 (.int .i64 0)) ∧ (∀ x ∈ pre, x.2 = true) ∧ w.heap.size + 4 ≤ W.heap.size ∧ Below w.heap.size w W)
    (fun c pre W => c = .ret ∧ (Boxed W w.heap.size 50 (.slice none 0 0) ∧ Boxed W (w.heap.size + 1) 23 (.int .i64 4)) ∧ (∃ x ∈ pre, x.2 = false) ∧ Below w.heap.size w W)
    ?own ?ownx ⟨⟨_, bO, World.ownsRow_nil _ _ _ _, trivial⟩, ⟨bR, bE⟩, by simp, by omega, hB0⟩ ?cell
    (fun x => { tmps := #[.string s, undef, .pointer (some ⟨w.heap.size, 0, none⟩), .pointer (some ⟨w.heap.size + 1, 0, none⟩), .pointer (some ⟨w.heap.size + 2, 0, none⟩), .string x.1, .bool x.2, .string s, .func (.func 122) #[] #[.pointer (some ⟨w.heap.size + 3, 0, none⟩)], .string x.1, .bool x.2, undef, undef, undef, undef, undef, undef, undef, undef, undef, undef], defers := [] })
    ?assign ?body ?done ?stop
  case seq =>
    intro l J Jx W hW hJ hJx hJc hY h0
    refine all1_in (n - 1) (by omega) l (w.heap.size + 3) (s.size + 1) s (by omega) J Jx hJc (fun s' A m hs' => hJ s' A _ none hs' (RF.grownBy_drewN A m) (fun r e => by cases e)) hY W ((hW.block _ (by omega)).trans bN) h0
  case own =>
    have hne : ∀ {W : World} {row : Option Nat} {B t : Nat} {v : Value}, Boxed W B t v → (∀ r, row = some r → W0.heap.size ≤ r ∧ ∃ o : Obj, W.heap[r]? = some o ∧ o.isCells = false) → some B ≠ row := fun hv hr e' => by
      obtain ⟨_, o, ho, hc⟩ := hr _ e'.symm
      rw [show _ = _ from hv] at ho; cases ho; cases hc
    intro pre W W' row hs hg hr
    obtain ⟨h1, ⟨h2, h3⟩, h4, h5, h6⟩ := hs
    refine ⟨Own.from (holdsRow_own (w.heap.size + 4) (w.heap.size + 2) 50 9 1 (fun pre => pre.length) (fun pre : List (ByteArray × Bool) => pre.map fun x => .string x.1) (fun _ _ => True)) W0.heap.size pre W W' row h1 hg hr, ⟨h2.kept hg (hne h2 hr), h3.kept hg (hne h3 hr)⟩, h4, by have := hg.size; omega, h6.grown hg (by omega) (fun r e => ?_)⟩
    have := (hr r e).1; omega
  case ownx =>
    intro c pre W W' row hs hg hr
    have hne : ∀ {B t : Nat} {v : Value}, Boxed W B t v → some B ≠ row := fun hv e' => by
      obtain ⟨_, o, ho, hc⟩ := hr _ e'.symm
      rw [show _ = _ from hv] at ho; cases ho; cases hc
    obtain ⟨h0, ⟨h2, h3⟩, h4, h6⟩ := hs
    exact ⟨h0, ⟨h2.kept hg (hne h2), h3.kept hg (hne h3)⟩, h4, h6.grown hg h6.size (fun r e => by have := (hr r e).1; omega)⟩
  case cell =>
    rintro pre A u ⟨⟨v, h1, hrow, _⟩, ⟨h2, h3⟩, h4, h5, h6⟩
    have hg := grownBy_setCell' A (w.heap.size + 3) u
    refine ⟨⟨v, h1.kept hg (by simp), hrow.kept hg ?_, trivial⟩, ⟨h2.kept hg (by simp), h3.kept hg (by simp)⟩, h4, by have := hg.size; omega, h6.setCell (p := ⟨w.heap.size + 3, 0, none⟩) (by simp) u⟩
    rcases hrow.2 with ⟨rfl, _⟩ | ⟨g, cap, cur, rfl, hb, _, _⟩
    · exact .inl rfl
    · exact .inr (by simp [Value.ownBlock]; omega)
  case assign =>
    intro l x W K hK
    gi_wp2
    exact hK
  case body =>
    rintro l pre ⟨x1, x2⟩ W ⟨⟨v, hv, hrow, -⟩, ⟨hR, hE⟩, hall, hsize, hB⟩ hlt
    cases x2 with
    | false =>
      have hcR := hR.cell
      have hfR := hR.frozen
      have hcE := hE.cell
      have hfE := hE.frozen
      gi_wp2
      have k1 := (KeepsOthers.setCell W ⟨w.heap.size, 0, none⟩ (.slice none 0 0)).trans (KeepsOthers.setCell _ ⟨w.heap.size + 1, 0, none⟩ (.int .i64 4))
      exact ⟨k1.from _, rfl, ⟨(hR.set _).kept (grownBy_setCell' _ _ _) (by simp), (hE.kept (grownBy_setCell' _ _ _) (by simp)).set _⟩, ⟨(x1, false), by simp, rfl⟩, (hB.setCell (p := ⟨w.heap.size, 0, none⟩) (Nat.le_refl _) _).setCell (p := ⟨w.heap.size + 1, 0, none⟩) (by simp) _⟩
    | true =>
      have hc := hv.cell
      gi_wp2_with (gi_at_builtin; refine wpListIn_append_own _ rfl _ _ 50 rfl (w.heap.size + 4) 9 i0 (.string ⟨#[]⟩) 1 16 Try.underlying50 hi hz0 hz1 hz2 rfl (by decide) _ _ _ rfl (hrow.alloc _) ⟨W.heap.size, 0, none⟩ 1 1 [.string x1] rfl rfl (cell_one_new _ _ _) (by simp [Value.oneCell']) (by simp only [maxLen]; omega) (by omega) (by simp; omega) ?_; intro v' w1 hown' hgrow _; obtain ⟨g', cap', rfl⟩ := ownsRow_succ hown'; obtain ⟨hv1, hv2, hr2, hk2, hb2⟩ := hv.appended (by decide) (RF.ownlow (b' := w.heap.size) hrow (by omega)) (by omega) (by omega) (RF.ownlow (b' := w.heap.size) hown' (by omega)) hgrow; have hc1 := hv1.cell; have hf1 := hv1.frozen)
      have hrow2 := hown'.kept (grownBy_setCell' w1 (w.heap.size + 2) (Value.slice (some { block := g', off := 0 }) (pre.length + 1) cap')) (.inr (hv1.not_row (by decide) hown').symm)
      have hlow : ∀ k, k < w.heap.size + 4 → some k ≠ v.ownBlock := fun k hk e => by
        rcases hrow.2 with ⟨rfl, _⟩ | ⟨g, cap, cur, rfl, hb, _, _⟩
        · simp [Value.ownBlock] at e
        · simp [Value.ownBlock] at e; omega
      have hge := hgrow.size
      have hk3 : ∀ k, k < w.heap.size + 4 → w1.heap[k]? = W.heap[k]? := fun k hk => (hgrow.block k (by simp; omega) (hlow k hk)).trans (Below.heap_alloc _ _ _ (by omega))
      refine ⟨hk2.from _, (Below.heap_setCell _ _ _ _ (by simp)).trans (hk3 _ (by omega)), ⟨_, hv2, by simpa using hrow2, trivial⟩, ⟨?_, ?_⟩, ?_, ?_, hB.trans hb2⟩
      · exact (Below.heap_setCell _ _ _ _ (by simp)).trans ((hk3 _ (by omega)).trans hR)
      · exact (Below.heap_setCell _ _ _ _ (by simp)).trans ((hk3 _ (by omega)).trans hE)
      · intro x hx
        rcases List.mem_append.1 hx with h | h
        · exact hall x h
        · simp at h; rw [h]
      · have := (grownBy_setCell' w1 (w.heap.size + 2) (Value.slice (some { block := g', off := 0 }) (pre.length + 1) cap')).size
        simp at hge; omega
  case done =>
    rintro D ys W hD rfl ⟨⟨v, hv, hrow, -⟩, ⟨hR, hE⟩, hall, hsize, hB⟩ hK
    have hc := hv.cell
    have hcR := hR.cell
    have hfR := hR.frozen
    have hcE := hE.cell
    have hfE := hE.frozen
    have hAll : (lbEvs (s.size + 1) s).all (·.2) = true := List.all_eq_true.2 hall
    by_cases hbig : 255 < s.size
    · have hb1 : decide (255 < (s.size : Int)) = true := decide_eq_true (by omega)
      gi_wp2
      have hK2 : ((W.setCell { block := w.heap.size, off := 0 } (Value.slice none 0 0)).setCell { block := w.heap.size + 1, off := 0 } (Value.int IntKind.i64 3)).heap[D]? = some (.deferred (some [])) :=
        (Below.heap_setCell _ _ _ _ (by simp; omega)).trans ((Below.heap_setCell _ _ _ _ (by simp; omega)).trans hK)
      have hR2 : Boxed ((W.setCell { block := w.heap.size, off := 0 } (Value.slice none 0 0)).setCell { block := w.heap.size + 1, off := 0 } (Value.int IntKind.i64 3)) w.heap.size 50 (.slice none 0 0) := (hR.set _).kept (grownBy_setCell' _ _ _) (by simp)
      have hE2 : Boxed ((W.setCell { block := w.heap.size, off := 0 } (Value.slice none 0 0)).setCell { block := w.heap.size + 1, off := 0 } (Value.int IntKind.i64 3)) (w.heap.size + 1) 23 (.int .i64 3) := (hE.kept (grownBy_setCell' _ _ _) (by simp)).set _
      have hB2 := (hB.setCell (p := ⟨w.heap.size, 0, none⟩) (Nat.le_refl _) (Value.slice none 0 0)).setCell (p := ⟨w.heap.size + 1, 0, none⟩) (by simp) (Value.int IntKind.i64 3)
      refine ⟨by simp, .inl ⟨_, _, rfl, run_takeDeferred hK2, ?_⟩⟩
      refine ⟨_, RF.results_cell2 rfl _ rfl rfl (u := .slice none 0 0) (v := .int .i64 3) (Boxed.cell (t := 50) ((World.putObj_heap_other (by omega)).trans hR2)) (Boxed.cell (t := 23) ((World.putObj_heap_other (by omega)).trans hE2)), .slice none 0 0, [], 3, ?_, rfl, World.ownsRow_nil _ _ _ _, hB2.trans (belowK_b (w := w) (Nat.le_refl _) _ D _ _ (by omega) hK2 rfl rfl)⟩
      unfold name_Labels.f
      rw [if_pos hs, if_pos hAll, if_pos hbig]
    · have hb1 : decide (255 < (s.size : Int)) = false := decide_eq_false (by omega)
      obtain ⟨A, cc, rfl⟩ : ∃ A cc, v = .slice A (lbEvs (s.size + 1) s).length cc := by
        rcases hrow.2 with ⟨rfl, h0⟩ | ⟨g, cap, cur, rfl, hb, _, _⟩
        · exact ⟨none, 0, by rw [h0]⟩
        · exact ⟨_, _, rfl⟩
      gi_wp2
      obtain ⟨u, hu⟩ : ∃ u, u = (Value.slice A (lbEvs (s.size + 1) s).length cc) := ⟨_, rfl⟩
      have hlow : ∀ k, k < w.heap.size + 4 → some k ≠ (Value.slice A (lbEvs (s.size + 1) s).length cc).ownBlock := fun k hk e => by
        rcases hrow.2 with ⟨h0, _⟩ | ⟨g, cap, cur, h0, hb, _, _⟩
        · rw [h0] at e; simp [Value.ownBlock] at e
        · rw [h0] at e; simp [Value.ownBlock] at e; omega
      have hrow2 := (hrow.kept (grownBy_setCell' W w.heap.size (Value.slice A (lbEvs (s.size + 1) s).length cc)) (.inr (hlow _ (by omega)).symm)).kept (grownBy_setCell' _ (w.heap.size + 1) (Value.int IntKind.i64 0)) (.inr (hlow _ (by omega)).symm)
      rw [← hu] at hrow2 ⊢
      have hK2 : ((W.setCell { block := w.heap.size, off := 0 } u).setCell { block := w.heap.size + 1, off := 0 } (Value.int IntKind.i64 0)).heap[D]? = some (.deferred (some [])) :=
        (Below.heap_setCell _ _ _ _ (by simp; omega)).trans ((Below.heap_setCell _ _ _ _ (by simp; omega)).trans hK)
      have hR2 : Boxed ((W.setCell { block := w.heap.size, off := 0 } u).setCell { block := w.heap.size + 1, off := 0 } (Value.int IntKind.i64 0)) w.heap.size 50 u := (hR.set _).kept (grownBy_setCell' _ _ _) (by simp)
      have hE2 : Boxed ((W.setCell { block := w.heap.size, off := 0 } u).setCell { block := w.heap.size + 1, off := 0 } (Value.int IntKind.i64 0)) (w.heap.size + 1) 23 (.int .i64 0) := (hE.kept (grownBy_setCell' _ _ _) (by simp)).set _
      have hB2 := (hB.setCell (p := ⟨w.heap.size, 0, none⟩) (Nat.le_refl _) u).setCell (p := ⟨w.heap.size + 1, 0, none⟩) (by simp) (Value.int IntKind.i64 0)
      refine ⟨by simp, .inl ⟨_, _, rfl, run_takeDeferred hK2, ?_⟩⟩
      refine ⟨_, RF.results_cell2 rfl _ rfl rfl (u := u) (v := .int .i64 0) (Boxed.cell (t := 50) ((World.putObj_heap_other (by omega)).trans hR2)) (Boxed.cell (t := 23) ((World.putObj_heap_other (by omega)).trans hE2)), u, (lbEvs (s.size + 1) s).map (·.1), 0, ?_, rfl, ?_, hB2.trans (belowK_b (w := w) (Nat.le_refl _) _ D _ _ (by omega) hK2 rfl rfl)⟩
      · unfold name_Labels.f
        rw [if_pos hs, if_pos hAll, if_neg hbig]
      · have := ownsRow_putObj (RF.ownlow (b' := w.heap.size) hrow2 (by omega)) (.deferred none) hK2 rfl
        simpa [List.map_map, Function.comp_def] using this
  case stop =>
    rintro D c pre W hD hpre ⟨rfl, ⟨hR, hE⟩, ⟨x, hx, hx2⟩, hB⟩ hK
    have hcR := hR.cell
    have hcE := hE.cell
    have hNo : ¬ (lbEvs (s.size + 1) s).all (·.2) = true := fun h => by
      have := List.all_eq_true.1 h x (hpre.subset hx)
      rw [hx2] at this; cases this
    gi_wp2
    refine ⟨by simp, .inl ⟨_, _, rfl, run_takeDeferred hK, ?_⟩⟩
    refine ⟨_, RF.results_cell2 (w := W.putObj D (.deferred none)) rfl _ rfl rfl (u := .slice none 0 0) (v := .int .i64 4) (Boxed.cell (t := 50) ((World.putObj_heap_other (by omega)).trans hR)) (Boxed.cell (t := 23) ((World.putObj_heap_other (by omega)).trans hE)), .slice none 0 0, [], 4, ?_, rfl, World.ownsRow_nil _ _ _ _, hB.trans (belowK_b (w := w) (Nat.le_refl _) _ D _ _ (by omega) hK rfl rfl)⟩
    unfold name_Labels.f
    rw [if_pos hs, if_neg hNo]

theorem name_Labels.calls (s : ByteArray) (ls : List ByteArray) (c : Int) (w : World) (h : name_Labels.f s = some (ls, c)) :
    Calls Try.prog 93 #[.string s] w fun e w' => ∃ v0_ : Value, e = .returned (.tuple #[v0_, .int .i64 c]) ∧ Kd.R Kd.string 9 w' w.heap.size (fun _ => True) v0_ ls ∧ Below w.heap.size w w' := by
  have hs : s.size ≤ 2000000 := by
    unfold name_Labels.f at h
    by_cases hs : s.size ≤ 2000000
    · exact hs
    · rw [if_neg hs] at h; cases h
  refine callsIn_wide.1 ((name_Labels.in_ 4 (by omega) s hs w).mono ?_)
  rintro e w' ⟨v, ls', c', hf, rfl, ho, hb⟩
  rw [h] at hf
  injection hf with hf
  cases hf
  exact ⟨v, rfl, Kd.R_of_own (by simpa [encs] using ho) (fun _ _ => trivial), hb⟩
end Go.Proofs.Ytjjbhpbmfpodeaa.X
