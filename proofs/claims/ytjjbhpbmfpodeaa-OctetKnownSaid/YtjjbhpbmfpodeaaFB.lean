/- Appending one byte to bytes of one's own whose spare room holds numbers too (outside a fence). -/
import Derived.Test.YtjjbhpbmfpodeaaH39
namespace Go.Proofs.Ytjjbhpbmfpodeaa.X
open Go.RowKit Go.Proofs.YtjjbhpbmfpodeaaW.PrintWords Go.Proofs.YtjjbhpbmfpodeaaW.PrintLast Go.Proofs.YtjjbhpbmfpodeaaW.PrintMore
set_option linter.unusedVariables false
set_option linter.unusedSimpArgs false
set_option maxRecDepth 100000 in
theorem Full_append {w0 W : World} {ops : Array Oper} {rest : List Oper} {o : Oper} {a : Act} {Q : Exit → Act → World → Prop} (base : Nat) (hgd : o.guard = none) (s x : Operand)
    (ho : o.op = .call { callee := .builtin .append, args := #[s, x], argTypes := #[22, 22] })
    (v : Value) (xs : List Int) (p : Int) (hs : a.eval s = v) (hx : a.eval x = .slice (some ⟨W.heap.size, 0, none⟩) 1 1)
    (HO : Full W base v xs) (HB : Below base w0 W) (hbase : base ≤ W.heap.size) (hl : xs.length + 1 ≤ 140737488355328)
    (h : ∀ v1 w1, Full w1 base v1 (xs ++ [p]) → Below base w0 w1 → W.heap.size ≤ w1.heap.size → wpList Try.prog ops Q rest (a.put o.dst v1) w1) :
    wpList Try.prog ops Q (o :: rest) a (W.alloc (.cells #[.int .u8 p] 5)) := by
  have hC : Kd.C (Kd.int .u8) (W.alloc (.cells #[.int .u8 p] 5)) (some ⟨W.heap.size, 0, none⟩) 1 [p] := C_of_blk (xs := [p]) (World.alloc_heap_new W _) (by simp)
  obtain ⟨v', w', hrun, r1, r2⟩ := append_full (ty := o.type) (c := 1) (HO.below (below_alloc (Below.refl _ _) (.cells #[.int .u8 p] 5))) hC (by omega) (by simp; omega)
  refine wpList_plain hgd fun K hK => ?_
  have hsz := r2.size
  rw [World.size_alloc] at hsz
  have hb : Below base w0 w' := (HB.alloc hbase _).grown r2 (by simp; omega) (fun j e => (HO.base_ j e).1)
  unfold Oper.wp execOp
  simp only [ho, resolve, invoke, builtin, Sem.run_bind, Sem.run_pure, Result.andThen_ok, List.map_toArray, List.map_cons, List.map_nil, hs, hx]
  erw [hrun]
  exact hK _ _ (h v' w' r1 hb (by omega))
end Go.Proofs.Ytjjbhpbmfpodeaa.X
