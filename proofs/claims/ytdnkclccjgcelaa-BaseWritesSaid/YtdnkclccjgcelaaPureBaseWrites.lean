import Derived.Test.YtdnkclccjgcelaaQBOx3
import Derived.Test.YtdnkclccjgcelaaBaseW
import Derived.OpenShut
namespace Go.Proofs.Ytdnkclccjgcelaa.Pure
open Go.RowKit Go.Proofs.Ytdnkclccjgcelaa.QBO Go.Proofs.YtdnkclccjgcelaaW.PrintWords Go.Proofs.YtdnkclccjgcelaaW.PrintLast
open Go.Proofs.Ytdnkclccjgcelaa.BaseW Go.Proofs.YtdnkclccjgcelaaBW

theorem tail (l0 : List Int) (a1 x5 : Int) (hb : ∀ x ∈ l0, 0 ≤ x ∧ x < 256) (hl : l0.length ≤ 2000) (h5 : base_Size.f a1 = some x5) : ∃ k, longlinelaw14_BaseWrites.j1 k l0 a1 x5 = some true := by
  obtain ⟨k, hk⟩ := enc_of_ref l0 hb (by omega)
  refine ⟨k + 1, ?_⟩
  simp only [longlinelaw14_BaseWrites.j1]
  rw [show longlinelaw14_alive.f = some true from rfl, Option.bind_some, if_pos rfl, write_f l0 hb (by omega), Option.bind_some, hk, Option.bind_some, if_pos rfl, h5, Option.bind_some, if_pos rfl, size_f _ (by omega) (by omega), Option.bind_some, Option.bind_some, ba_size, enc_length _ l0 (Nat.le_refl _)]
  congr 1
  rw [beq_iff_eq]
  omega

theorem BaseWrites : longlinelaw14_BaseWrites.Pure := by
  intro l0 a1 _ _ hw hw1
  have hb : ∀ x ∈ l0, 0 ≤ x ∧ x < 256 := fun x hx => by have := bounds_u8 (hw x hx); omega
  have hi := bounds_i64 hw1
  by_cases hl : (l0.length : Int) > 2000
  · refine ⟨0, ?_⟩
    unfold longlinelaw14_BaseWrites.f
    rw [if_pos hl]
    rfl
  · by_cases ha : a1 ≥ 0
    · by_cases h6 : a1 ≤ 65536
      · by_cases h3 : Int.tmod a1 3 = 0
        · obtain ⟨k, hk⟩ := tail l0 a1 (wrap64 ((wrap64 (Int.tdiv a1 3)) * 4)) hb (by omega) (by
            rw [size_f a1 ha h6]
            rw [Int.tmod_eq_emod_of_nonneg ha] at h3
            rw [Int.tdiv_eq_ediv_of_nonneg ha, w64 (n := a1 / 3) (by omega) (by omega), w64 (by omega) (by omega)]
            congr 1
            omega)
          refine ⟨k + 1, ?_⟩
          unfold longlinelaw14_BaseWrites.f
          rw [if_neg hl, if_pos ha, decide_eq_true h6]
          simp only [longlinelaw14_BaseWrites.j0]
          rw [if_pos trivial, if_pos h3]
          exact hk
        · obtain ⟨k, hk⟩ := tail l0 a1 (wrap64 ((wrap64 ((wrap64 (Int.tdiv a1 3)) * 4)) + 4)) hb (by omega) (by
            rw [size_f a1 ha h6]
            rw [Int.tmod_eq_emod_of_nonneg ha] at h3
            rw [Int.tdiv_eq_ediv_of_nonneg ha, w64 (n := a1 / 3) (by omega) (by omega), w64 (n := a1 / 3 * 4) (by omega) (by omega), w64 (by omega) (by omega)]
            congr 1
            omega)
          refine ⟨k + 1, ?_⟩
          unfold longlinelaw14_BaseWrites.f
          rw [if_neg hl, if_pos ha, decide_eq_true h6]
          simp only [longlinelaw14_BaseWrites.j0]
          rw [if_pos trivial, if_neg h3]
          exact hk
      · obtain ⟨k, hk⟩ := tail l0 a1 0 hb (by omega) (by unfold base_Size.f; rw [if_neg (by omega), if_pos (by omega)])
        refine ⟨k + 1, ?_⟩
        unfold longlinelaw14_BaseWrites.f
        rw [if_neg hl, if_pos ha, decide_eq_false h6]
        simp only [longlinelaw14_BaseWrites.j0]
        rw [if_neg (by decide)]
        exact hk
    · obtain ⟨k, hk⟩ := tail l0 a1 0 hb (by omega) (by unfold base_Size.f; rw [if_pos (by omega)])
      refine ⟨k + 1, ?_⟩
      unfold longlinelaw14_BaseWrites.f
      rw [if_neg hl, if_neg ha]
      simp only [longlinelaw14_BaseWrites.j0]
      rw [if_neg (by decide)]
      exact hk

end Go.Proofs.Ytdnkclccjgcelaa.Pure
