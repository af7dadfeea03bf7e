import Derived.Test.YtdnkclccjgcelaaQBOx5
import Derived.Test.YtdnkclccjgcelaaBaseC
import Derived.OpenShut
namespace Go.Proofs.Ytdnkclccjgcelaa.Pure
open Go.RowKit Go.Proofs.Ytdnkclccjgcelaa.QBO Go.Proofs.YtdnkclccjgcelaaW.PrintWords Go.Proofs.YtdnkclccjgcelaaW.PrintLast
open Go.Proofs.Ytdnkclccjgcelaa.BaseW Go.Proofs.Ytdnkclccjgcelaa.BaseR Go.Proofs.Ytdnkclccjgcelaa.BaseC
open Go.Proofs.YtdnkclccjgcelaaBW (enc)

theorem back1 (l0 l1 : List Int) (hb0 : Bytes l0) (hb1 : Bytes l1) (hl0 : l0.length ≤ 3000) (hl1 : l1.length ≤ 3000) (k : Nat) : longlinelaw14_BaseBack.j1 (k + 1) l0 l1 false = some true := by
  simp only [longlinelaw14_BaseBack.j1]
  rw [if_neg (by decide), show longlinelaw14_alive.f = some true from rfl, Option.bind_some, if_pos rfl]
  by_cases h3 : (l0.length : Int) % 3 = 0
  · rw [if_pos h3, write_f l0 hb0 (by omega), Option.bind_some, write_f l1 hb1 (by omega), Option.bind_some, ba_size, ba_size, enc_length _ l0 (Nat.le_refl _), enc_length _ l1 (Nat.le_refl _), if_pos (by omega), Option.bind_some, List.nil_append, if_pos (by simp; omega), Option.bind_some, if_pos (by omega)]
    rw [write_f (l0 ++ l1) (fun x hx => by rcases List.mem_append.1 hx with h | h; exact hb0 x h; exact hb1 x h) (by rw [List.length_append]; omega), Option.bind_some, ba_append, enc_append _ l0 l1 (Nat.le_refl _) (by omega)]
    congr 1
    exact beq_iff_eq.2 rfl
  · rw [if_neg h3]

theorem BaseBack : longlinelaw14_BaseBack.Pure := by
  intro l0 l1 a2 _ _ hw0 _ _ hw1 _
  have hb0 : Bytes l0 := fun x hx => by have := bounds_u8 (hw0 x hx); omega
  have hb1 : Bytes l1 := fun x hx => by have := bounds_u8 (hw1 x hx); omega
  have skip : ∀ k, longlinelaw14_BaseBack.j0 (k + 1) l0 l1 a2 true = some true := fun k => by
    simp only [longlinelaw14_BaseBack.j0]
    rfl
  obtain ⟨K, hK⟩ : ∃ K : Nat, K = 30000 := ⟨_, rfl⟩
  refine ⟨K + 2, ?_⟩
  unfold longlinelaw14_BaseBack.f
  by_cases h0 : (l0.length : Int) > 3000
  · rw [if_pos h0]; exact skip _
  · rw [if_neg h0]
    by_cases h1 : (l1.length : Int) > 3000
    · rw [if_pos h1]; exact skip _
    · rw [if_neg h1]
      by_cases h2 : (a2.size : Int) > 4000
      · rw [decide_eq_true h2]; exact skip _
      · rw [decide_eq_false h2]
        obtain ⟨L, hL⟩ : ∃ L : List UInt8, L = a2.data.toList := ⟨_, rfl⟩
        have ha : a2 = ⟨L.toArray⟩ := by rw [hL, ba_eta]
        have hs : L.length ≤ 4000 := by rw [ha, ba_size] at h2; omega
        have hg := enc_good _ l0 (Nat.le_refl _) hb0
        have hel := enc_length _ l0 (Nat.le_refl _)
        have hr0 := read_f (enc l0) (by omega) (K + 1) (by omega)
        rw [if_neg (by omega), if_neg (by omega), hg.2] at hr0
        have hr1 := read_f L (by omega) (K + 1) (by omega)
        rw [if_neg (by omega)] at hr1
        simp only [longlinelaw14_BaseBack.j0]
        rw [if_neg (by decide), write_f l0 hb0 (by omega), Option.bind_some, hr0, Option.bind_some, ha, hr1, Option.bind_some, if_pos rfl, if_pos rfl]
        by_cases hf : 0 ≤ fault L
        · rw [if_pos hf, if_neg (by decide)]
          exact back1 l0 l1 hb0 hb1 (by omega) (by omega) K
        · rw [if_neg hf, if_pos rfl]
          have hd := dec_good _ L (Nat.le_refl _) (by omega)
          rw [write_f (dec L) hd.2.1 (by omega), Option.bind_some, hd.1, show ((⟨L.toArray⟩ : ByteArray).toList != (⟨L.toArray⟩ : ByteArray).toList) = false from bne_eq_false_iff_eq.2 rfl]
          exact back1 l0 l1 hb0 hb1 (by omega) (by omega) K

end Go.Proofs.Ytdnkclccjgcelaa.Pure
