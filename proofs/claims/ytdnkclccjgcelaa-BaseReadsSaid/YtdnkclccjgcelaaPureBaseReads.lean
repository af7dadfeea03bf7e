import Derived.Test.YtdnkclccjgcelaaQBOx5
import Derived.Test.YtdnkclccjgcelaaBaseE
namespace Go.Proofs.Ytdnkclccjgcelaa.Pure
open Go.RowKit Go.Proofs.Ytdnkclccjgcelaa.QBO Go.Proofs.YtdnkclccjgcelaaW.PrintWords Go.Proofs.YtdnkclccjgcelaaW.PrintLast
open Go.Proofs.Ytdnkclccjgcelaa.BaseW Go.Proofs.Ytdnkclccjgcelaa.BaseR Go.Proofs.Ytdnkclccjgcelaa.BaseC Go.Proofs.Ytdnkclccjgcelaa.BaseD Go.Proofs.Ytdnkclccjgcelaa.BaseE

theorem reads_skip (k : Nat) (s : ByteArray) : longlinelaw14_BaseReads.j0 (k + 1) s true = some true := by
  simp only [longlinelaw14_BaseReads.j0]
  rfl

theorem reads_long (L : List UInt8) (h : 90000 < L.length) (h2 : L.length ≤ 90100) : longlinelaw14_BaseReads.j0 1000000 ⟨L.toArray⟩ false = some true := by
  obtain ⟨K, hK⟩ : ∃ K : Nat, K + 1 = 1000000 := ⟨999999, rfl⟩
  rw [← hK]
  have hr := read_f L (by omega) K (by omega)
  rw [if_pos h] at hr
  simp only [longlinelaw14_BaseReads.j0]
  rw [if_neg (by decide), hr, Option.bind_some, ba_size, if_pos (by omega), show longlinelaw14_alive.f = some true from rfl, Option.bind_some, if_pos rfl, if_pos rfl]
  rfl

theorem reads_short (L : List UInt8) (h : L.length ≤ 300) : ∃ k, longlinelaw14_BaseReads.j0 k ⟨L.toArray⟩ false = some true := by
  obtain ⟨k1, h1⟩ := ref_read L (by omega)
  obtain ⟨k2, h2⟩ := ref_fault L (by omega)
  obtain ⟨K, hK⟩ : ∃ K, K = max (max k1 k2) 3000 := ⟨_, rfl⟩
  have g1 := lift (fun k => longlineref14_Read.f k ⟨L.toArray⟩) (fun k => longlineref14_Read.mono _ k) h1 (show k1 ≤ K by omega)
  have g2 := lift (fun k => longlineref14_Fault.f k ⟨L.toArray⟩) (fun k => longlineref14_Fault.mono _ k) h2 (show k2 ≤ K by omega)
  have g3 := read_f L (by omega) K (by omega)
  have g4 := fault_f L (by omega) K (by omega)
  rw [if_neg (by omega)] at g3
  refine ⟨K + 1, ?_⟩
  replace g1 : longlineref14_Read.f K ⟨L.toArray⟩ = _ := g1
  replace g2 : longlineref14_Fault.f K ⟨L.toArray⟩ = _ := g2
  have hge : fault L < 0 → fault L = -1 := fun hf => by
    have := fault_le _ L (Nat.le_refl _)
    by_cases h0 : L = []
    · rw [h0]; rfl
    · obtain ⟨a, b, c, d, r, rfl, he, hd, hr⟩ := good_cases L hf h0
      rw [fault4, if_neg (by omega), if_neg (fun z => z.2 (hd z.1)), if_neg (by omega)]
  simp only [longlinelaw14_BaseReads.j0]
  rw [if_neg (by decide), g3, Option.bind_some, ba_size, if_neg (by omega), g1, Option.bind_some, show longlinelaw14_alive.f = some true from rfl, Option.bind_some, if_pos rfl, g4, g2]
  by_cases hf : fault L < 0
  · have hf2 : ¬ 0 ≤ fault L := by omega
    simp only [if_neg hf2, if_pos hf]
    rw [if_pos trivial, if_pos (by rfl), if_pos trivial, Option.bind_some, Option.bind_some, hge hf]
    rfl
  · have hf2 : 0 ≤ fault L := by omega
    simp only [if_pos hf2, if_neg hf]
    rw [if_pos trivial, if_pos (by rfl), if_neg (by decide), if_pos trivial, Option.bind_some, Option.bind_some]
    congr 1
    exact beq_iff_eq.2 rfl

theorem BaseReads : longlinelaw14_BaseReads.Pure := by
  intro a0 _
  obtain ⟨L, hL⟩ : ∃ L : List UInt8, L = a0.data.toList := ⟨_, rfl⟩
  have ha : a0 = ⟨L.toArray⟩ := by rw [hL, ba_eta]
  subst ha
  unfold longlinelaw14_BaseReads.f
  rw [ba_size]
  by_cases h3 : (L.length : Int) > 300
  · by_cases h9 : (L.length : Int) ≤ 90000
    · exact ⟨1, by rw [if_pos h3, if_pos h9]; exact reads_skip 0 _⟩
    · by_cases h91 : (L.length : Int) > 90100
      · exact ⟨1, by rw [if_pos h3, if_neg h9, decide_eq_true h91]; exact reads_skip 0 _⟩
      · exact ⟨1000000, by rw [if_pos h3, if_neg h9, decide_eq_false h91]; exact reads_long L (by omega) (by omega)⟩
  · obtain ⟨k, hk⟩ := reads_short L (by omega)
    exact ⟨k, by rw [if_neg h3, decide_eq_false (by omega)]; exact hk⟩

end Go.Proofs.Ytdnkclccjgcelaa.Pure
