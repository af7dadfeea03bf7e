/- A slice of pairs of whole numbers that came in, opened: its numbers, their cells, its size. -/
import Derived.Deep.SlicePairs
import Derived.SizedLaws
import Derived.ChangeSlices
namespace Go.Proofs.YtgefndjbcabioaaOwn
open Go.ChangeShapes Go.WideShapes Go.Deep

theorem open_pairs {H : Type} {enc : TypeId × Value → H} {P : Program} {W : World} {base : Nat} {spare : Nat → Bool} {held : Bool} {t e : TypeId} {k0 k1 : IntKind} {f0 f1 : Field} {a : Option Addr} {len cap : Nat} {d : DataW H} {ps : List MemPlace} {ts : List TypeId} {ds : List (DataW H)} {j : Nat} {B : Nat}
    (hsz : (DataW.weightsEach P ts ds).all (· ≤ reachBytes) = true) (ht : ts[j]? = some t) (hd : ds[j]? = some d) (hu : P.underlying t = some (.slice e)) (he : P.underlying e = some (.struct #[f0, f1])) (ce : P.cellsOf e = 2) (o0 : f0.offset = 0) (o1 : f1.offset = 1)
    (c0 : P.cellsOf f0.type = 1) (c1 : P.cellsOf f1.type = 1) (hB : P.bytesOf e = B) (u0 : P.underlying f0.type = some (.int k0)) (u1 : P.underlying f1.type = some (.int k1))
    (h : DataW.Trod enc P W base spare held t (.slice a len cap) d ps) :
    ∃ zs : List (Int × Int), zs.length = len ∧ zs.length ≤ cap ∧ zs.length ≤ maxLen ∧ (∀ p ∈ zs, (Lit.int k0 p.1).wf = true ∧ (Lit.int k1 p.2).wf = true) ∧
      (0 < zs.length → ∃ ad, a = some ad ∧ ∀ (q : Nat) (p : Int × Int), zs[q]? = some p → W.cell? (ad.add (q * 2 + 0)) = some (.int k0 p.1) ∧ W.cell? (ad.add (q * 2 + 1)) = some (.int k1 p.2)) ∧ zs.length * B ≤ 140737488351232 := by
  obtain ⟨fuel, hf⟩ := h
  rcases open_slice_pairs hu he ce o0 o1 c0 c1 hf with ⟨hcs, _⟩ | ⟨x, l, c, m, n, V0, V1, D0, D1, P0, P1, hcs, _, hl, hm, hmm, hx, hc⟩
  · simp [Value.cells] at hcs
    obtain ⟨rfl, rfl, rfl⟩ := hcs
    exact ⟨[], rfl, Nat.zero_le _, Nat.zero_le _, by simp, by simp, by simp⟩
  · simp [Value.cells] at hcs
    obtain ⟨rfl, rfl, rfl⟩ := hcs
    have hlm : len ≤ m := by rw [hmm]; split <;> omega
    have each : ∀ i, i < len → ∃ p : Int × Int, V0 i = .int k0 p.1 ∧ V1 i = .int k1 p.2 ∧ (Lit.int k0 p.1).wf = true ∧ (Lit.int k1 p.2).wf = true := by
      intro i hi
      obtain ⟨_, _, g0, g1⟩ := hc i (by omega)
      obtain ⟨n0, e0, _, w0⟩ := DataW.trod_int u0 g0
      obtain ⟨n1, e1, _, w1⟩ := DataW.trod_int u1 g1
      simp at e0 e1
      exact ⟨(n0, n1), e0, e1, w0, w1⟩
    obtain ⟨f, hfn⟩ := choose_lt each
    obtain ⟨hx, _⟩ := Prod.mk.inj hx
    subst hx
    have z := sized_slice hsz ht hd hu
    rw [hB] at z
    refine ⟨(List.range len).map f, by simp, by simpa using hl, by simp; omega, ?_, ?_, ?_⟩
    · intro p hp
      obtain ⟨i, hi, rfl⟩ := List.mem_map.1 hp
      have := hfn i (List.mem_range.1 hi)
      exact ⟨this.2.2.1, this.2.2.2⟩
    · intro _
      refine ⟨x, rfl, fun q p hq => ?_⟩
      have hq' : q < len := by
        have := (List.getElem?_eq_some_iff.1 hq).1
        simpa using this
      have hp : p = f q := by
        rw [List.getElem?_map, List.getElem?_range hq'] at hq
        exact (Option.some.inj hq).symm
      subst hp
      obtain ⟨g0, g1, _, _⟩ := hc q (by omega)
      have hv := hfn q hq'
      rw [hv.1] at g0
      rw [hv.2.1] at g1
      exact ⟨g0, g1⟩
    · simp only [List.length_map, List.length_range] at z ⊢
      exact Nat.le_trans (Nat.mul_le_mul_right _ (by omega)) z
end Go.Proofs.YtgefndjbcabioaaOwn
