/- UtfPlain: for every list of bytes and every byte ahead of them the law's printed function answers true, given enough rounds. -/
import Derived.Test.YtppkfpjgejognaaQUtfx8
import Derived.Test.YtppkfpjgejognaaUtfFacts
namespace Go.Proofs.Ytppkfpjgejognaa.Pure
open Go.RowKit Go.Proofs.Ytppkfpjgejognaa.QUtf Go.Proofs.YtppkfpjgejognaaW.PrintWords Go.Proofs.YtppkfpjgejognaaW.PrintLast
open Go.Proofs.Ytppkfpjgejognaa.UtfCore Go.Proofs.Ytppkfpjgejognaa.UtfFacts

theorem and127 {x : Int} (h0 : 0 ≤ x) (h1 : x ≤ 255) : Go.bits .and .u8 x 127 = x % 128 := Go.bits_mask .u8 8 (by decide) Go.wraps_u8 7 (by decide) x h0 (by omega)

theorem plain_enc (l : List Int) (h : ∀ c ∈ l, 0 ≤ c ∧ c < 128) : l.flatMap encB = l := by
  induction l with
  | nil => rfl
  | cons c l ih =>
    have hc := h c (by simp)
    rw [List.flatMap_cons, encB_of ⟨hc.1, by omega, by omega⟩, ih (fun q hq => h q (by simp [hq]))]
    unfold enc; rw [if_pos hc.2]; rfl

theorem plain_j1 (a1 : Int) (l : List Int) (x : Bool) (k : Nat) (hl : ∀ c ∈ l, 0 ≤ c ∧ c < 128) (hlen : l.length ≤ 1000) (ha0 : 0 ≤ a1) (ha1 : a1 ≤ 255) (hx : x = false → 128 ≤ a1 ∧ l ≠ []) (hk : 5000 ≤ k) :
    longlinelaw13_UtfPlain.j1 (k + 1) a1 l l x = some true := by
  have hb : ∀ c ∈ l, 0 ≤ c ∧ c ≤ 255 := fun c hc => by have := hl c hc; omega
  cases x with
  | true =>
    simp only [longlinelaw13_UtfPlain.j1, if_true]; rw [alive_eq (by omega)]
    simp only [Option.bind_some, if_true]; rw [points_eq l hb (by omega) k (by omega), pts_plain l (fun c hc => (hl c hc).2)]
    simp only [Option.bind_some]; rw [same_eq l l rfl (by omega) k (by omega)]
    simp only [Option.bind_some, if_true]; rw [bytes_eq l (by omega) k (by omega), plain_enc l hl]
    simp only [Option.bind_some, beq_self_eq_true]
  | false =>
    obtain ⟨ha, hne⟩ := hx rfl
    have hb' : ∀ c ∈ [a1] ++ l, 0 ≤ c ∧ c ≤ 255 := by
      intro c hc
      rcases List.mem_append.1 hc with hc | hc
      · rw [List.mem_singleton.1 hc]; exact ⟨ha0, ha1⟩
      · exact hb c hc
    simp only [longlinelaw13_UtfPlain.j1, Bool.false_eq_true, if_false, Option.bind_some]
    rw [if_pos (by simp only [List.length_singleton]; omega), points_eq ([a1] ++ l) hb' (by simp; omega) k (by simp; omega), show [a1] ++ l = a1 :: l from rfl, pts_front a1 l ha hne hl]
    simp only [Option.bind_some]; rw [alive_eq (by omega)]
    have hlen1 : ((65533 :: l : List Int).length : Int) = (l.length : Int) + 1 := by rw [List.length_cons]; omega
    rw [Option.bind_some, if_pos rfl, hlen1, w64 (n := (l.length : Int) + 1) (by omega) (by omega), if_pos rfl, if_pos (by omega), if_pos (show rd (65533 :: l) 0 = 65533 from rfl), if_pos (by omega), List.drop_succ_cons, List.drop_zero, same_eq l l rfl (by omega) k (by omega)]
    rfl

theorem plain_l0 (l : List Int) (a1 : Int) (hl : ∀ c ∈ l, 0 ≤ c ∧ c ≤ 255) (hlen : l.length ≤ 1000) (ha0 : 0 ≤ a1) (ha1 : a1 ≤ 255) : ∀ (r k : Nat) (i : Int) (out : List Int), 0 ≤ i → i + r = l.length → (out.length : Int) = i → (∀ c ∈ out, 0 ≤ c ∧ c < 128) → r + 5010 ≤ k →
    longlinelaw13_UtfPlain.l0 k l a1 out out i = some true := by
  intro r
  induction r with
  | zero =>
    intro k i out h0 h1 ho hc hk
    obtain ⟨k, rfl⟩ : ∃ j, k = j + 2 := ⟨k - 2, by omega⟩
    simp only [longlinelaw13_UtfPlain.l0]; rw [if_neg (by omega)]
    by_cases c : a1 < 128
    · rw [if_pos c]; exact plain_j1 a1 out true k hc (by omega) ha0 ha1 (fun h => by cases h) (by omega)
    · rw [if_neg c]
      refine plain_j1 a1 out _ k hc (by omega) ha0 ha1 (fun h => ⟨by omega, fun e => ?_⟩) (by omega)
      rw [e] at ho
      have e0 : (l.length : Int) = 0 := by rw [List.length_nil] at ho; omega
      rw [e0] at h
      exact absurd h (by decide)
  | succ r ih =>
    intro k i out h0 h1 ho hc hk
    obtain ⟨k, rfl⟩ : ∃ j, k = j + 1 := ⟨k - 1, by omega⟩
    have hlt : i < (l.length : Int) := by omega
    have hr := hl _ (rd_mem h0 hlt)
    simp only [longlinelaw13_UtfPlain.l0]; rw [if_pos hlt, if_pos h0, if_pos (by omega), if_pos (by omega), and127 hr.1 hr.2, w32 (by omega) (by omega), w64 (by omega) (by omega)]
    refine ih k (i + 1) _ (by omega) (by omega) (by simp; omega) ?_ (by omega)
    intro c hcm
    rcases List.mem_append.1 hcm with hcm | hcm
    · exact hc c hcm
    · rw [List.mem_singleton.1 hcm]; omega

theorem UtfPlain : longlinelaw13_UtfPlain.Pure := by
  intro l a1 _ _ hl ha
  have hb := Go.bounds_u8 ha
  have hl' : ∀ c ∈ l, 0 ≤ c ∧ c ≤ 255 := fun c hc => Go.bounds_u8 (hl c hc)
  obtain ⟨K, hK⟩ : ∃ K : Nat, K = 6020 := ⟨_, rfl⟩
  refine ⟨K, ?_⟩
  rw [longlinelaw13_UtfPlain.f]
  by_cases c : (l.length : Int) > 1000
  · rw [if_pos c, alive_eq (by omega)]; rfl
  · rw [if_neg c]; exact plain_l0 l a1 hl' (by omega) hb.1 hb.2 l.length K 0 [] (by omega) (by omega) rfl (by simp) (by omega)
end Go.Proofs.Ytppkfpjgejognaa.Pure
