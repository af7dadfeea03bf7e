/- A slice of whole numbers that came in is read the same wherever the memory that there was is the same. -/
import Derived.Test.YtppkfpjgejognaaWMore
namespace Go.Proofs.YtppkfpjgejognaaOwn
open Go.RowKit Go.Proofs.YtppkfpjgejognaaW.PrintWords

theorem F_int {k : IntKind} {W : World} {A : Option Addr} {n : Nat} {xs : List Int} (h : Kd.C (Kd.int k) W A n xs) : Kd.F (Kd.int k) W (fun _ => True) A n xs := by
  intro W' hW
  obtain ⟨h1, h2, h3⟩ := h
  refine ⟨h1, h2, fun hn => ?_⟩
  obtain ⟨ad, ha, hx⟩ := h3 hn
  refine ⟨ad, ha, fun j p hj => ?_⟩
  obtain ⟨c, hc, hK, hcell⟩ := hx j p hj
  refine ⟨c, hc, hK, fun i u hu => ?_⟩
  have h4 := hcell i u hu
  have hlt := World.block_lt_of_cell? _ _ h4
  unfold World.cell? at h4 ⊢
  rw [hW _ trivial hlt]
  exact h4
end Go.Proofs.YtppkfpjgejognaaOwn
