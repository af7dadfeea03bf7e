/- UtfBack: for every list of points and every list of bytes the law's printed function answers true, given enough rounds. -/
import Derived.Test.YtppkfpjgejognaaQUtfx7
import Derived.Test.YtppkfpjgejognaaUtfFacts
namespace Go.Proofs.Ytppkfpjgejognaa.Pure
open Go.RowKit Go.Proofs.Ytppkfpjgejognaa.QUtf Go.Proofs.YtppkfpjgejognaaW.PrintWords Go.Proofs.YtppkfpjgejognaaW.PrintLast
open Go.Proofs.Ytppkfpjgejognaa.UtfCore Go.Proofs.Ytppkfpjgejognaa.UtfFacts

theorem encs_bytes (l : List Int) (h : ∀ p ∈ l, isPt p) : ∀ c ∈ l.flatMap enc, 0 ≤ c ∧ c ≤ 255 := by
  intro c hc
  obtain ⟨p, hp, hcp⟩ := List.mem_flatMap.1 hc
  exact enc_bytes p (h p hp) c hcp
theorem encs_len (l : List Int) : (l.flatMap enc).length ≤ 4 * l.length := by
  induction l with
  | nil => simp
  | cons p l ih => have := enc_len p; simp only [List.flatMap_cons, List.length_append, List.length_cons]; omega

theorem back_l1 (b right x : List Int) (hr : ∀ p ∈ right, isPt p) (hrl : right.length ≤ 500) (hx : ∀ p ∈ x, isPt p) (hxl : x.length ≤ b.length) (hbl : b.length ≤ 2000) (hne : b ≠ [] → 0 < x.length) : ∀ (r k : Nat) (i : Int), 0 ≤ i → i + r = x.length → r + 9000 ≤ k →
    longlinelaw13_UtfBack.l1 k b right x i = some true := by
  intro r
  induction r with
  | zero =>
    intro k i h0 h1 hk
    obtain ⟨k, rfl⟩ : ∃ j, k = j + 1 := ⟨k - 1, by omega⟩
    have he := encs_len right
    simp only [longlinelaw13_UtfBack.l1]; rw [if_neg (by omega), alive_eq (by omega)]
    simp only [Option.bind_some, if_true]; rw [bytes_eq right (by omega) k (by omega), encB_pts right hr]
    simp only [Option.bind_some]; rw [points_eq _ (encs_bytes right hr) (by omega) k (by omega), pts_encs right hr]
    simp only [Option.bind_some]; rw [same_eq right right rfl (by omega) k (by omega)]
    simp only [Option.bind_some, if_true]; rw [if_pos (by omega)]
    by_cases c : (b.length : Int) = 0
    · rw [if_pos c]
    · have : b ≠ [] := fun e => c (by rw [e]; rfl)
      have := hne this
      rw [if_neg c, decide_eq_true (by omega)]
  | succ r ih =>
    intro k i h0 h1 hk
    obtain ⟨k, rfl⟩ : ∃ j, k = j + 1 := ⟨k - 1, by omega⟩
    have hlt : i < (x.length : Int) := by omega
    obtain ⟨t, ht, hti⟩ := is_eq (rd x i)
    have : t = true := hti.2 (hx _ (rd_mem h0 hlt))
    subst this
    simp only [longlinelaw13_UtfBack.l1]; rw [if_pos hlt, if_pos h0, ht]
    simp only [Option.bind_some, if_true]; rw [w64 (by omega) (by omega)]
    exact ih k (i + 1) (by omega) (by omega) (by omega)

theorem back_l0 (l b : List Int) (hl : l.length ≤ 500) (hb : ∀ c ∈ b, 0 ≤ c ∧ c ≤ 255) (hbl : b.length ≤ 2000) : ∀ (r k : Nat) (i : Int) (right : List Int), 0 ≤ i → i + r = l.length → (∀ p ∈ right, isPt p) → (right.length : Int) ≤ i → r + 12000 ≤ k →
    longlinelaw13_UtfBack.l0 k l b right i = some true := by
  intro r
  induction r with
  | zero =>
    intro k i right h0 h1 hr hrl hk
    obtain ⟨k, rfl⟩ : ∃ j, k = j + 1 := ⟨k - 1, by omega⟩
    have hp := pts_facts b hb
    simp only [longlinelaw13_UtfBack.l0]; rw [if_neg (by omega), points_eq b hb (by omega) k (by omega)]
    simp only [Option.bind_some]
    exact back_l1 b right (pts b) hr (by omega) hp.1 hp.2.1 hbl hp.2.2 (pts b).length k 0 (by omega) (by omega) (by have := hp.2.1; omega)
  | succ r ih =>
    intro k i right h0 h1 hr hrl hk
    obtain ⟨k, rfl⟩ : ∃ j, k = j + 1 := ⟨k - 1, by omega⟩
    have hlt : i < (l.length : Int) := by omega
    obtain ⟨t, ht, hti⟩ := is_eq (rd l i)
    simp only [longlinelaw13_UtfBack.l0]; rw [if_pos hlt, if_pos h0, ht]
    simp only [Option.bind_some]; rw [w64 (by omega) (by omega)]
    by_cases c : t = true
    · rw [if_pos c, if_pos (by omega)]
      refine ih k (i + 1) _ (by omega) (by omega) ?_ (by simp; omega) (by omega)
      intro p hp
      rcases List.mem_append.1 hp with hp | hp
      · exact hr p hp
      · rw [List.mem_singleton.1 hp]; exact hti.1 c
    · rw [if_neg c]
      exact ih k (i + 1) right (by omega) (by omega) hr (by omega) (by omega)

theorem UtfBack : longlinelaw13_UtfBack.Pure := by
  intro l b _ _ _ _ _ hb
  have hb' : ∀ c ∈ b, 0 ≤ c ∧ c ≤ 255 := fun c hc => Go.bounds_u8 (hb c hc)
  obtain ⟨K, hK⟩ : ∃ K : Nat, K = 13000 := ⟨_, rfl⟩
  refine ⟨K + 1, ?_⟩
  have stop : longlinelaw13_UtfBack.j0 (K + 1) l b true = some true := by
    simp only [longlinelaw13_UtfBack.j0, if_true]; rw [alive_eq (by omega)]; rfl
  rw [longlinelaw13_UtfBack.f]
  by_cases c : (l.length : Int) > 500
  · rw [if_pos c]; exact stop
  · rw [if_neg c]
    by_cases c2 : (b.length : Int) > 2000
    · rw [decide_eq_true c2]; exact stop
    · rw [decide_eq_false c2]
      simp only [longlinelaw13_UtfBack.j0, Bool.false_eq_true, if_false]
      exact back_l0 l b (by omega) hb' (by omega) l.length K 0 [] (by omega) (by omega) (by simp) (by simp) (by omega)
end Go.Proofs.Ytppkfpjgejognaa.Pure
