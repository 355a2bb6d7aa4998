/- The closed facts of a row that look at the dump's head line, out of its first three words alone: so that the kernel needs little memory. No condition. -/
import Derived.Test.YtjjbhpbmfpodeaaRows
import Derived.ProofKit
import Derived.JoinedOf
namespace Go.Proofs.Ytjjbhpbmfpodeaa.Facts

theorem words_behind : ∀ (a r : List Char), (a.all fun c => c != Char.ofNat 32) = true → wordsSigns (a ++ Char.ofNat 32 :: r) = a :: wordsSigns r
  | [], r, _ => rfl
  | c :: a, r, h => by
    simp only [List.all_cons, Bool.and_eq_true, bne_iff_ne, ne_eq] at h
    have ih := words_behind a r (by simpa using h.2)
    have hc : c ≠ ' ' := h.1
    show wordsSigns (c :: (a ++ Char.ofNat 32 :: r)) = _
    rw [wordsSigns, ih]
    · exact hc

/-- The head line: a word, a sum, a word, the rest; laid out once. -/
structure Laid (L : List Char) : Prop where
  parts : L = L.take 7 ++ Char.ofNat 32 :: ((L.drop 8).take 64 ++ Char.ofNat 32 :: ((L.drop 73).take 3 ++ Char.ofNat 32 :: L.drop 77))
  one : L.take 7 = "harness".toList
  sum : isSumSigns ((L.drop 8).take 64) = true
  cut : (L.drop 73).take 3 = "cut".toList
  two : (((L.drop 8).take 64).all fun c => c != Char.ofNat 32) = true
set_option maxRecDepth 1000000 in
theorem head : ∃ L : List Char, Try.pinned.checked.prog.initOrder = String.ofList L ∧ Laid L :=
  ⟨_, rfl, ⟨by kernel_rfl, by kernel_rfl, by kernel_rfl, by kernel_rfl, by kernel_rfl⟩⟩
theorem words : ∃ s r, isSumSigns s = true ∧ wordsSigns Try.pinned.checked.prog.initOrder.toList = "harness".toList :: s :: "cut".toList :: r := by
  obtain ⟨L, e, h⟩ := head
  refine ⟨(L.drop 8).take 64, wordsSigns (L.drop 77), h.sum, ?_⟩
  rw [e, String.toList_ofList]
  have h1 := h.parts
  have h2 := h.one
  have h4 := h.cut
  rw [h2, h4] at h1
  rw [h1, words_behind _ _ (by decide +kernel), words_behind _ _ h.two, words_behind _ _ (by decide +kernel), ← h1]
theorem behind {s : List Char} (r : List (List Char)) (h : isSumSigns s = true) : behindMainWord ("harness".toList :: s :: r) = r := by
  unfold behindMainWord
  simp [h]
/-- What is asked of the words behind the sum, where the first of them is 'cut'. -/
def body (P : Program) (r : List (List Char)) : Bool :=
    ("cut".toList == "gc".toList || "cut".toList == "spec".toList) && (r.isEmpty || r.head? == some "stop".toList) ||
    ("cut".toList == "carried".toList && r.take 2 == ["gc".toList, "cut".toList] && !P.laysLater && !P.bearsReflect) ||
    ((stripLifts liftWords ("cut".toList :: r)).2.head? == some "cut".toList &&
      ((stripLifts liftWords ("cut".toList :: r)).1.contains "finals" || !P.laysLater) && ((stripLifts liftWords ("cut".toList :: r)).1.contains "reflectrows" || !P.bearsReflect) &&
      ((stripLifts liftWords ("cut".toList :: r)).1.contains "reflectrows" || !(stripLifts liftWords ("cut".toList :: r)).1.contains "leanrows") &&
      P.doorFits (stripLifts liftWords ("cut".toList :: r)).1)
theorem enter_of {P : Program} {s : List Char} {r : List (List Char)} (h : isSumSigns s = true) (e : wordsSigns P.initOrder.toList = "harness".toList :: s :: "cut".toList :: r) (k : body P r = true) : P.mayEnter = true := by
  unfold Program.mayEnter
  rw [e, behind _ h]
  exact k
theorem finals_of {P : Program} {s : List Char} {r : List (List Char)} (h : isSumSigns s = true) (e : wordsSigns P.initOrder.toList = "harness".toList :: s :: "cut".toList :: r) (k : (("cut".toList :: r).head? == some "carried".toList && ("cut".toList :: r).take 3 != ["carried".toList, "gc".toList, "cut".toList] || (stripLifts liftWords ("cut".toList :: r)).1.contains "finals") = false) : P.liftsFinal = false := by
  unfold Program.liftsFinal Program.headLifts
  rw [e, behind _ h]
  exact k
theorem make_of {P : Program} {s : List Char} {r : List (List Char)} (h : isSumSigns s = true) (e : wordsSigns P.initOrder.toList = "harness".toList :: s :: "cut".toList :: r) : P.make = some .cut := by
  unfold Program.make
  rw [e, behind _ h]
  rfl
theorem body_true (r : List (List Char)) : body Try.pinned.checked.prog r = true := by kernel_rfl
theorem mayEnter : Try.pinned.checked.prog.mayEnter = true := by
  obtain ⟨s, r, h, e⟩ := words
  exact enter_of h e (body_true r)
theorem finals : Try.pinned.checked.prog.liftsFinal = false := by
  obtain ⟨s, r, h, e⟩ := words
  exact finals_of h e (by kernel_rfl)
theorem make : Try.pinned.checked.prog.make = some .cut := by
  obtain ⟨s, r, h, e⟩ := words
  exact make_of h e
end Go.Proofs.Ytjjbhpbmfpodeaa.Facts
