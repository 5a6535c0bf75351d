/- A slice of structs of two whole numbers, as an argument: what its cells hold. Condition: the argument is a well-formed value of its type, no larger than its weight allows. -/
import Derived.Deep.Slices
import Derived.Deep.Fields
import Derived.ChangeSame
import Derived.SizedLaws
import Derived.ChangeSlices
set_option linter.unusedVariables false
namespace Go.Proofs.BelO
open Go.ChangeShapes Go.WideShapes Go.Deep
section
variable {H : Type} {enc : TypeId × Value → H} {P : Program} {w : World} {base : Nat} {spare : Nat → Bool} {held : Bool}
/-- One element, out of its two cells. -/
theorem pair_cells {e : TypeId} {f0 f1 : Field} {k0 k1 : IntKind} {cs : List Value} {n : Nat} {y : DataW H × List MemPlace} (he : P.underlying e = some (.struct #[f0, f1])) (hone : oneCellFields P #[f0, f1] = true) (hC : P.cellsOf e = 2)
    (h0 : P.underlying f0.type = some (.int k0)) (h1 : P.underlying f1.type = some (.int k1)) (h : DataW.trod enc P w base spare held n e cs = some y) :
    ∃ p : Int × Int, cs = [.int k0 p.1, .int k1 p.2] ∧ (Lit.int k0 p.1).wf = true ∧ (Lit.int k1 p.2).wf = true := by
  obtain ⟨ys, n', _, _, hlen, hyl, hf⟩ := DataW.trod_struct he h
  rw [hC] at hlen
  obtain ⟨o0, c0⟩ := hone_of hone 0 f0 rfl
  obtain ⟨o1, c1⟩ := hone_of hone 1 f1 rfl
  have g0 := hf 0 f0 rfl
  have g1 := hf 1 f1 rfl
  rw [o0, c0] at g0
  rw [o1, c1] at g1
  match cs, hlen with
  | [x0, x1], _ =>
    match ys, hyl with
    | [y0, y1], _ =>
      obtain ⟨a, ha, _, wa⟩ := DataW.trod_int h0 (show DataW.trod enc P w base spare held n' f0.type [x0] = some y0 from g0)
      obtain ⟨b, hb, _, wb⟩ := DataW.trod_int h1 (show DataW.trod enc P w base spare held n' f1.type [x1] = some y1 from g1)
      injection ha with ha _
      injection hb with hb _
      exact ⟨(a, b), by rw [ha, hb], wa, wb⟩

/-- A slice of structs of two whole numbers. -/
theorem open_pairs {t e : TypeId} {f0 f1 : Field} {k0 k1 : IntKind} {a : Option Addr} {len cap : Nat} {d : DataW H} {ps : List MemPlace} {ts : List TypeId} {ds : List (DataW H)} {j B : Nat}
    (hsz : (DataW.weightsEach P ts ds).all (· ≤ reachBytes) = true) (htj : ts[j]? = some t) (hdj : ds[j]? = some d)
    (ht : P.underlying t = some (.slice e)) (he : P.underlying e = some (.struct #[f0, f1])) (hone : oneCellFields P #[f0, f1] = true) (hC : P.cellsOf e = 2)
    (h0 : P.underlying f0.type = some (.int k0)) (h1 : P.underlying f1.type = some (.int k1)) (hB : P.bytesOf e = B)
    (h : DataW.Trod enc P w base spare held t (.slice a len cap) d ps) :
    ∃ l : List (Int × Int), l.length = len ∧ len ≤ cap ∧ len ≤ maxLen ∧ len * B ≤ 140737488351232 ∧ (∀ p ∈ l, (Lit.int k0 p.1).wf = true ∧ (Lit.int k1 p.2).wf = true) ∧
      (0 < len → ∃ ad, a = some ad ∧ ∀ i p, l[i]? = some p → w.cell? (ad.add (i * 2)) = some (.int k0 p.1) ∧ w.cell? (ad.add (i * 2 + 1)) = some (.int k1 p.2)) := by
  obtain ⟨fuel, hf⟩ := h
  rcases open_slice ht hf with ⟨hcs, _⟩ | ⟨x, l, c, m, n, D, Pl, hcs, hb, hl, hm, hmm, hx, hi⟩
  · simp [Value.cells] at hcs
    obtain ⟨rfl, rfl, rfl⟩ := hcs
    exact ⟨[], rfl, Nat.le_refl _, Nat.zero_le _, by simp, by simp, fun h => absurd h (Nat.lt_irrefl 0)⟩
  · simp [Value.cells] at hcs
    obtain ⟨rfl, rfl, rfl⟩ := hcs
    have hlm : len ≤ m := by rw [hmm]; split <;> omega
    have key : ∀ i, ∃ p : Int × Int, i < len → ((Lit.int k0 p.1).wf = true ∧ (Lit.int k1 p.2).wf = true) ∧ w.cell? (x.add (i * 2)) = some (.int k0 p.1) ∧ w.cell? (x.add (i * 2 + 1)) = some (.int k1 p.2) := by
      intro i
      by_cases hil : i < len
      · obtain ⟨cs', hc, htr⟩ := hi i (by omega)
        rw [hC] at hc
        obtain ⟨p, hp, w0, w1⟩ := pair_cells he hone hC h0 h1 htr
        obtain ⟨_, _, hat⟩ := World.cells?_some hc
        have a0 := hat 0 (by omega)
        have a1 := hat 1 (by omega)
        rw [add_add, hp] at a0 a1
        exact ⟨p, fun _ => ⟨⟨w0, w1⟩, by simpa using a0, by simpa using a1⟩⟩
      · exact ⟨(0, 0), fun h => absurd h hil⟩
    have z : len * B ≤ 140737488351232 := by
      obtain ⟨hx, _⟩ := Prod.mk.inj hx
      subst hx
      have z := sized_slice hsz htj hdj ht
      rw [hB] at z
      simp only [List.length_map, List.length_range] at z
      exact Nat.le_trans (Nat.mul_le_mul_right _ (Nat.le_add_right _ _)) z
    refine ⟨(List.range len).map fun i => (key i).choose, by simp, hl, Nat.le_trans hl hm, z, ?_, fun _ => ⟨x, rfl, ?_⟩⟩
    · intro p hp
      obtain ⟨i, hir, rfl⟩ := List.mem_map.1 hp
      exact ((key i).choose_spec (List.mem_range.1 hir)).1
    · intro i p hp
      have hil : i < len := by
        have := (List.getElem?_eq_some_iff.1 hp).1
        simpa using this
      rw [List.getElem?_map, List.getElem?_range hil] at hp
      simp only [Option.map_some, Option.some.injEq] at hp
      rw [← hp]
      exact ((key i).choose_spec hil).2
end
end Go.Proofs.BelO
