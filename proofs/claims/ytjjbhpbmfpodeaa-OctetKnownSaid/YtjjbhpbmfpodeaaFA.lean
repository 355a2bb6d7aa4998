/- Appending to bytes of one's own whose spare room holds numbers too. -/
import Derived.Test.YtjjbhpbmfpodeaaH33
import Derived.Laws.OwnMore
namespace Go.Proofs.Ytjjbhpbmfpodeaa.X
open Go.RowKit Go.Proofs.YtjjbhpbmfpodeaaW.PrintWords Go.Proofs.YtjjbhpbmfpodeaaW.PrintLast Go.Proofs.YtjjbhpbmfpodeaaW.PrintMore
set_option linter.unusedVariables false
set_option linter.unusedSimpArgs false

theorem nums_app (xs ys : List Int) : (nums .u8 xs).toArray ++ (nums .u8 ys).toArray = (nums .u8 (xs ++ ys)).toArray := by simp [nums]
theorem zero_nums (k : Nat) : Builtin.zeroCells (Value.int .u8 0).cells k = (nums .u8 (List.replicate k 0)).toArray := by
  have h : Builtin.zeroCells (Value.int .u8 0).cells k = madeCells #[Value.int .u8 0] (k * 1) := rfl
  rw [h, Nat.mul_one]
  apply Array.toList_inj.1
  rw [toList_madeCells_one]
  simp [nums]
theorem maxLen_eq : maxLen = 9223372036854775807 := by decide

set_option maxRecDepth 100000 in
theorem append_full {w : World} {base : Nat} {v : Value} {xs : List Int} (hf : Full w base v xs) {ty : TypeId} {A : Option Addr} {m c : Nat} {ys : List Int} (hC : Kd.C (Kd.int .u8) w A m ys)
    (b1 : xs.length + m ≤ 140737488355328) (b3 : base ≤ w.heap.size) :
    ∃ v' w', (Builtin.append_ #[22, 22] ty #[v, .slice A m c]).run Try.prog w = .ok v' w' ∧ Full w' base v' (xs ++ ys) ∧ w.grownBy w' v.ownBlock := by
  obtain ⟨i, hi, hz, hsz, hby⟩ := info_parts info5
  obtain ⟨hlen, _, hcells⟩ := Kd.reads_of_C (d := (0 : Int)) hC
  rcases Nat.eq_zero_or_pos m with h0 | h0
  · subst h0
    obtain rfl : ys = [] := List.eq_nil_of_length_eq_zero hlen
    rw [List.append_nil]
    refine ⟨v, w, ?_, hf, ⟨rfl, rfl, rfl, Nat.le_refl _, fun _ _ _ => rfl⟩⟩
    rcases hf with ⟨rfl, rfl⟩ | ⟨g, zs, rfl, hb, hg, hl⟩
    · cases A <;> simp [Builtin.append_, run_underlying Try.underlying22, sizeOf, typeInfo, hi, Builtin.lenOf, Builtin.firstCells, loadCells, loadCellsFrom]
    · cases A <;> simp [Builtin.append_, run_underlying Try.underlying22, sizeOf, typeInfo, hi, Builtin.lenOf, Builtin.firstCells, loadCells, loadCellsFrom, storeCells]
  · obtain ⟨ad, rfl, hcell⟩ := hcells h0
    have hnews : ∀ j u, (nums .u8 ys)[j]? = some u → w.cell? (ad.add j) = some u := fun j v hv => by
      have hj : j < ys.length := by
        rcases Nat.lt_or_ge j ys.length with h | h
        · exact h
        · rw [List.getElem?_eq_none (by simp [nums]; omega)] at hv; cases hv
      have hc := hcell j (by omega)
      have e : v = .int .u8 (ys.getD j 0) := by
        simp [nums, List.getElem?_eq_getElem hj] at hv
        rw [← hv, List.getD_eq_getElem?_getD, List.getElem?_eq_getElem hj]; rfl
      rw [e]; exact hc
    have hnl : (nums .u8 ys).length = m * i.size := by rw [hsz]; simp [nums, hlen]
    have h1c : ∀ u ∈ nums .u8 ys, u.oneCell' = true := fun v hv => by simp [nums] at hv; obtain ⟨x, _, rfl⟩ := hv; rfl
    rcases hf with ⟨rfl, rfl⟩ | ⟨g, zs, rfl, hb, hg, hl⟩
    · have hr := run_append_nil (P := Try.prog) w 22 ty 5 i (.int .u8 0) Try.underlying22 hi hz ad m c (nums .u8 ys) hnl hnews h0 (by omega) (by rw [hby]; omega)
      rw [zero_nums, nums_app] at hr
      have hge := grownCap_ge w m 0 5
      have hle := grownCap_le_maxLen w m 0 5 (by rw [maxLen_eq]; omega)
      refine ⟨_, _, hr, .inr ⟨w.heap.size, List.replicate (grownCap w m 0 5 - m) 0, ?_, b3, World.alloc_heap_new w.drew _, ?_⟩, ⟨rfl, rfl, rfl, by simp, fun k hk _ => Below.heap_alloc w.drew _ k hk⟩⟩
      · simp only [List.nil_append, List.length_replicate]
        rw [hlen, show m + (grownCap w m 0 5 - m) = grownCap w m 0 5 by omega]
      · have hle2 := Nat.le_trans hle (Nat.le_of_eq maxLen_eq)
        clear hle
        rw [List.nil_append, List.length_replicate, hlen, Nat.add_sub_cancel' hge]
        exact hle2
    · by_cases hroom : xs.length + m ≤ xs.length + zs.length
      · have hcs : (nums .u8 (xs ++ zs)).toArray.size = xs.length + zs.length := by simp [nums]
        have hr := run_append_room (P := Try.prog) w 22 ty 5 i Try.underlying22 hi g xs.length (xs.length + zs.length) _ hg ad m c (nums .u8 ys) hnl hnews h1c hroom (by rw [hsz, hcs]; simp [nums]; omega)
        have e : (((nums .u8 (xs ++ zs)).toArray.toList.take (xs.length * i.size) ++ nums .u8 ys ++ (nums .u8 (xs ++ zs)).toArray.toList.drop (xs.length * i.size + (nums .u8 ys).length)).toArray) = (nums .u8 ((xs ++ ys) ++ zs.drop m)).toArray := by
          rw [hsz, Nat.mul_one]
          refine congrArg List.toArray ?_
          simp [nums, hlen, List.drop_append]
        rw [e] at hr
        refine ⟨_, _, hr, .inr ⟨g, zs.drop m, ?_, hb, setRow_heap w g _ _ 5 _ hg, ?_⟩, ⟨rfl, rfl, rfl, by simp, fun k _ hk => setRow_other w g k _ (fun e => hk (by simp [Value.ownBlock, e]))⟩⟩
        · simp only [List.length_append, List.length_drop, hlen]
          rw [show xs.length + m + (zs.length - m) = xs.length + zs.length by omega]
        · simp only [List.length_append, List.length_drop, hlen]; omega
      · have holds : ∀ j u, (nums .u8 xs)[j]? = some u → w.cell? ((⟨g, 0, none⟩ : Addr).add j) = some u := fun j u hu => by
          have hj : j < (nums .u8 xs).length := by
            rcases Nat.lt_or_ge j (nums .u8 xs).length with h | h
            · exact h
            · rw [List.getElem?_eq_none h] at hu; cases hu
          have e : (⟨g, 0, none⟩ : Addr).add j = ⟨g, j, none⟩ := by simp [Addr.add] <;> omega
          rw [e, blk_cell hg, List.getElem?_toArray]
          unfold nums at hu hj ⊢
          rw [List.map_append, List.getElem?_append_left hj]
          exact hu
        have hr := run_append_grow (P := Try.prog) w 22 ty 5 i (.int .u8 0) Try.underlying22 hi hz ⟨g, 0, none⟩ xs.length (xs.length + zs.length) (nums .u8 xs) (by rw [hsz]; simp [nums]) holds ad m c (nums .u8 ys) hnl hnews (by omega) (by omega) (by rw [hby]; exact growslice_fits (by omega) (by omega))
        rw [zero_nums, nums_app, nums_app] at hr
        have hge := grownCap_ge w (xs.length + m) (xs.length + zs.length) 5
        have hle := grownCap_le_maxLen w (xs.length + m) (xs.length + zs.length) 5 (by rw [maxLen_eq]; omega)
        refine ⟨_, _, hr, .inr ⟨w.heap.size, List.replicate (grownCap w (xs.length + m) (xs.length + zs.length) 5 - (xs.length + m)) 0, ?_, b3, World.alloc_heap_new w.drew _, ?_⟩, ⟨rfl, rfl, rfl, by simp, fun k hk _ => Below.heap_alloc w.drew _ k hk⟩⟩
        · simp only [List.length_append, List.length_replicate, hlen]
          rw [show xs.length + m + (grownCap w (xs.length + m) (xs.length + zs.length) 5 - (xs.length + m)) = grownCap w (xs.length + m) (xs.length + zs.length) 5 by omega]
        · have hle2 := Nat.le_trans hle (Nat.le_of_eq maxLen_eq)
          clear hle
          rw [List.length_append, List.length_replicate, hlen, Nat.add_sub_cancel' hge]
          exact hle2

set_option maxRecDepth 100000 in
theorem wpListIn_append_full {F : Fence} {n : Nat} (w : World) {ops : Array Oper} {rest : List Oper} {o : Oper} {a : Act} {Q : Exit → Act → World → Prop}
    (hg : o.guard = none) (s x : Operand) (hop : o.op = Op.call { callee := Callee.builtin Builtin.append, args := #[s, x], argTypes := #[22, 22] })
    (base : Nat) (v : Value) (xs : List Int) (hs : a.eval s = v) (hf : Full w base v xs) (A : Option Addr) (m c : Nat) (ys : List Int) (hx : a.eval x = .slice A m c) (hC : Kd.C (Kd.int .u8) w A m ys)
    (b1 : xs.length + m ≤ 140737488355328) (b3 : base ≤ w.heap.size)
    (hK : ∀ v' w', Full w' base v' (xs ++ ys) → w.grownBy w' v.ownBlock → wpListIn F n Try.prog ops Q rest (a.put o.dst v') w') :
    wpListIn F n Try.prog ops Q (o :: rest) a w := by
  refine wpListIn_plain hg fun K hK' => ?_
  obtain ⟨v', w', hrun, r1, r2⟩ := append_full (ty := o.type) hf hC b1 b3
  unfold Oper.wpIn
  refine ⟨?_, ?_⟩
  · simp [Oper.about, hop, resolve, Target.leads, Sem.run_pure]
  · rw [Oper.semAt_plain F _ _ (by rw [hop]; intro c hc'; cases hc')]
    simp [execOp, hop, resolve, invoke, builtin, hs, hx, Result.andThen]
    erw [hrun]
    exact hK' _ _ (hK v' w' r1 r2)
end Go.Proofs.Ytjjbhpbmfpodeaa.X
