import Derived.Test.YtdnkclccjgcelaaQBOx6
import Derived.Test.YtdnkclccjgcelaaBaseC
import Derived.OpenShut
namespace Go.Proofs.Ytdnkclccjgcelaa.Pure
open Go.RowKit Go.Proofs.Ytdnkclccjgcelaa.QBO Go.Proofs.YtdnkclccjgcelaaW.PrintWords Go.Proofs.YtdnkclccjgcelaaW.PrintLast
open Go.Proofs.Ytdnkclccjgcelaa.BaseW Go.Proofs.Ytdnkclccjgcelaa.BaseR Go.Proofs.Ytdnkclccjgcelaa.BaseC
open Go.Proofs.YtdnkclccjgcelaaBW (enc)

theorem BaseCuts : longlinelaw14_BaseCuts.Pure := by
  intro l0 a1 _ _ hw0 hw1
  have hb0 : Bytes l0 := fun x hx => by have := bounds_u8 (hw0 x hx); omega
  have hi := bounds_i64 hw1
  have hsz : l0.length ≤ 140737488351232 := by omega
  have skip : ∀ k t, longlinelaw14_BaseCuts.j0 (k + 1) l0 a1 t true = some true := fun k t => by
    simp only [longlinelaw14_BaseCuts.j0]
    rfl
  obtain ⟨K, hK⟩ : ∃ K : Nat, K = 30000 := ⟨_, rfl⟩
  refine ⟨K + 2, ?_⟩
  unfold longlinelaw14_BaseCuts.f
  rw [write_f l0 hb0 (by omega), Option.bind_some]
  by_cases h0 : (l0.length : Int) > 3000
  · rw [if_pos h0]; exact skip _ _
  · rw [if_neg h0]
    by_cases h1 : a1 < 0
    · rw [if_pos h1]; exact skip _ _
    · rw [if_neg h1, w64 (n := (l0.length : Int) / 3) (by omega) (by omega), w64 (n := (l0.length : Int) / 3 * 4) (by omega) (by omega)]
      by_cases h2 : a1 > (l0.length : Int) / 3 * 4
      · rw [decide_eq_true h2]; exact skip _ _
      · rw [decide_eq_false h2]
        obtain ⟨m, rfl⟩ : ∃ m : Nat, a1 = (m : Int) := ⟨a1.toNat, by omega⟩
        have hel := enc_length _ l0 (Nat.le_refl _)
        have hcut := cut_fault _ l0 m (Nat.le_refl _) hb0 (by omega)
        have hx : (⟨(enc l0).toArray⟩ : ByteArray).extract 0 ((m : Int)).toNat = ⟨((enc l0).take m).toArray⟩ := by
          have e := ext_pre [] (enc l0) m
          rw [Int.toNat_natCast]
          simpa using e
        have hlt : ((enc l0).take m).length = m := by rw [List.length_take]; omega
        have hr := read_f ((enc l0).take m) (by omega) (K + 1) (by omega)
        have hf := fault_f ((enc l0).take m) (by omega) (K + 1) (by omega)
        rw [if_neg (by omega)] at hr
        simp only [longlinelaw14_BaseCuts.j0]
        rw [if_neg (by decide), ba_size, if_neg (by omega), if_pos (by omega), if_pos (by omega), hx, hr, hf, Option.bind_some, Int.tmod_eq_emod_of_nonneg (by omega)]
        by_cases h4 : (m : Int) % 4 = 0
        · obtain ⟨c1, c2⟩ := hcut.1 (by omega)
          rw [if_pos h4, show longlinelaw14_alive.f = some true from rfl, Option.bind_some, if_pos rfl, c1]
          rw [show (if (0 : Int) ≤ -1 then (([] : List Int), (3 : Int)) else (dec ((enc l0).take m), 0)) = (dec ((enc l0).take m), 0) from rfl, if_pos rfl]
          have e3 : wrap64 ((wrap64 (Int.tdiv (m : Int) 4)) * 3) = ((m / 4 * 3 : Nat) : Int) := by
            rw [Int.tdiv_eq_ediv_of_nonneg (by omega), w64 (n := (m : Int) / 4) (by omega) (by omega), w64 (by omega) (by omega)]
            omega
          rw [e3, if_pos (by omega), if_pos (by omega), Int.toNat_natCast, c2, if_pos rfl, Option.bind_some]
          rfl
        · have c1 := hcut.2 (by omega)
          rw [if_neg h4, show longlinelaw14_alive.f = some true from rfl, Option.bind_some, if_pos rfl, c1]
          have h0m : (0 : Int) ≤ (m : Int) := by omega
          rw [if_pos h0m, if_pos rfl, Option.bind_some]
          congr 1
          exact beq_iff_eq.2 rfl

end Go.Proofs.Ytdnkclccjgcelaa.Pure
