import Derived.Test.YtdnkclccjgcelaaQBOx10
import Derived.Test.YtdnkclccjgcelaaOscB
namespace Go.Proofs.Ytdnkclccjgcelaa.Pure
open Go.RowKit Go.Proofs.Ytdnkclccjgcelaa.QBO Go.Proofs.YtdnkclccjgcelaaW.PrintWords Go.Proofs.YtdnkclccjgcelaaW.PrintLast
open Go.Proofs.Ytdnkclccjgcelaa.BaseW Go.Proofs.Ytdnkclccjgcelaa.BaseD Go.Proofs.Ytdnkclccjgcelaa.OscA Go.Proofs.Ytdnkclccjgcelaa.OscB

theorem OscReads : longlinelaw18_OscReads.Pure := by
  intro a0 a1 _ _
  obtain ⟨L, hL⟩ : ∃ L : List UInt8, L = a0.data.toList := ⟨_, rfl⟩
  have ha : a0 = ⟨L.toArray⟩ := by rw [hL, ba_eta]
  rw [ha]
  by_cases h : (L.length : Int) > 1500
  · refine ⟨100, ?_⟩
    unfold longlinelaw18_OscReads.f
    rw [ba_size, if_pos h, alive_f 100 (Nat.le_refl _), Option.bind_some]
  · obtain ⟨k, hk⟩ := rread_f L (by omega)
    obtain ⟨K, hK⟩ : ∃ K, K = max k 12000 := ⟨_, rfl⟩
    have g := lift (fun k => longlineref18_Read.f k ⟨L.toArray⟩) (fun k => longlineref18_Read.mono _ k) hk (show k ≤ K by omega)
    replace g : longlineref18_Read.f K ⟨L.toArray⟩ = some (readO L) := g
    refine ⟨K, ?_⟩
    unfold longlinelaw18_OscReads.f
    rw [ba_size, if_neg h, oread_f L (by omega) K (by omega), Option.bind_some, g, Option.bind_some, alive_f K (by omega), Option.bind_some, if_pos rfl, if_pos rfl, if_pos rfl, if_pos rfl, cut_f L (by omega) a1 K (by omega), Option.bind_some, rcut_f L (by omega) a1 K (by omega), Option.bind_some]
    congr 1
    exact beq_iff_eq.2 rfl

end Go.Proofs.Ytdnkclccjgcelaa.Pure
