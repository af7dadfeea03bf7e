/- What osc writes: the program's way and the document's. -/
import Derived.Test.YtdnkclccjgcelaaQBOx11
import Derived.Test.YtdnkclccjgcelaaOscB
set_option linter.unusedSimpArgs false
set_option linter.unusedVariables false
namespace Go.Proofs.Ytdnkclccjgcelaa.OscC
open Go.RowKit Go.Proofs.Ytdnkclccjgcelaa.QBO Go.Proofs.YtdnkclccjgcelaaW.PrintWords Go.Proofs.YtdnkclccjgcelaaW.PrintLast
open Go.Proofs.Ytdnkclccjgcelaa.BaseW Go.Proofs.Ytdnkclccjgcelaa.BaseR Go.Proofs.Ytdnkclccjgcelaa.BaseC Go.Proofs.Ytdnkclccjgcelaa.BaseD Go.Proofs.Ytdnkclccjgcelaa.OscA Go.Proofs.Ytdnkclccjgcelaa.OscB
open Go.Proofs.YtdnkclccjgcelaaBW (enc)

def nums (L : List UInt8) : List Int := bytesOf ⟨L.toArray⟩
theorem nums_eq (L : List UInt8) : nums L = L.map (fun c => (c.toNat : Int)) := by
  unfold nums bytesOf
  simp
theorem nums_bytes (L : List UInt8) : Bytes (nums L) := by
  rw [nums_eq]
  intro x hx
  obtain ⟨c, _, rfl⟩ := List.mem_map.1 hx
  have := c.toNat_lt
  omega
theorem nums_len (L : List UInt8) : (nums L).length = L.length := by rw [nums_eq, List.length_map]

def writeO (kind : Int) (L : List UInt8) : ByteArray × Int :=
  if kind = 1 ∧ cutL L 64 = L then (⟨(50 :: 59 :: L).toArray⟩, 0) else if kind = 2 then (if 256 < L.length then (⟨#[]⟩, 2) else (⟨(53 :: 50 :: 59 :: 99 :: 59 :: enc (nums L)).toArray⟩, 0)) else (⟨#[]⟩, 3)

theorem e5 (M : List UInt8) : (⟨#[53, 50, 59, 99, 59]⟩ : ByteArray) ++ (⟨M.toArray⟩ : ByteArray) = ⟨(53 :: 50 :: 59 :: 99 :: 59 :: M).toArray⟩ := ba_append [53, 50, 59, 99, 59] M
theorem e2' (M : List UInt8) : (⟨#[50, 59]⟩ : ByteArray) ++ (⟨M.toArray⟩ : ByteArray) = ⟨(50 :: 59 :: M).toArray⟩ := ba_append [50, 59] M

theorem write_j0 (kind : Int) (L : List UInt8) (hL : L.length ≤ 100000) (k : Nat) (b : Bool) (hb : b = true ↔ (kind = 1 ∧ cutL L 64 = L)) : osc_Write.j0 (k + 1) b kind ⟨L.toArray⟩ = some (writeO kind L) := by
  simp only [osc_Write.j0]
  unfold writeO
  by_cases h : kind = 1 ∧ cutL L 64 = L
  · rw [if_pos (hb.2 h), if_pos h, ba_size, if_pos (by omega), e2']
  · rw [if_neg (fun z => h (hb.1 z)), if_neg h]
    by_cases h2 : kind = 2
    · rw [if_pos h2, if_pos h2, ba_size]
      by_cases h6 : 256 < L.length
      · rw [if_pos (by omega), if_pos h6]
      · have hl := nums_len L
        have he := enc_length _ (nums L) (Nat.le_refl _)
        rw [if_neg (by omega), if_neg h6, show bytesOf ⟨L.toArray⟩ = nums L from rfl, write_f (nums L) (nums_bytes L) (by omega), Option.bind_some, ba_size, if_pos (by omega), e5]
    · rw [if_neg h2, if_neg h2]
theorem owrite_f (kind : Int) (L : List UInt8) (hL : L.length ≤ 100000) (k : Nat) (hk : L.length + 2 ≤ k) : osc_Write.f k kind ⟨L.toArray⟩ = some (writeO kind L) := by
  obtain ⟨j, rfl⟩ : ∃ j, k = j + 1 := ⟨k - 1, by omega⟩
  unfold osc_Write.f
  by_cases h1 : kind = 1
  · rw [if_pos h1, cut_f L (by omega) 64 (j + 1) (by omega), Option.bind_some, ba_toList, ba_toList]
    exact write_j0 kind L hL j _ (by rw [beq_iff_eq]; exact ⟨fun h => ⟨h1, h⟩, fun h => h.2⟩)
  · rw [if_neg h1]
    exact write_j0 kind L hL j false (by simp [h1])

theorem rwrite_j0 (kind : Int) (L : List UInt8) (hL : L.length ≤ 100000) (b : Bool) (hb : b = true ↔ (kind = 1 ∧ cutL L 64 = L)) : ∃ k, longlineref18_Write.j0 k b kind ⟨L.toArray⟩ = some (writeO kind L) := by
  have hl := nums_len L
  obtain ⟨k, hk⟩ := enc_of_ref (nums L) (nums_bytes L) (by omega)
  refine ⟨k + 1, ?_⟩
  simp only [longlineref18_Write.j0]
  unfold writeO
  by_cases h : kind = 1 ∧ cutL L 64 = L
  · rw [if_pos (hb.2 h), if_pos h, ba_size, if_pos (by omega), e2']
  · rw [if_neg (fun z => h (hb.1 z)), if_neg h]
    by_cases h2 : kind = 2
    · rw [if_pos h2, if_pos h2, ba_size]
      by_cases h6 : 256 < L.length
      · rw [if_pos (by omega), if_pos h6]
      · have he := enc_length _ (nums L) (Nat.le_refl _)
        rw [if_neg (by omega), if_neg h6, show bytesOf ⟨L.toArray⟩ = nums L from rfl, hk, Option.bind_some, ba_size, if_pos (by omega), e5]
    · rw [if_neg h2, if_neg h2]
theorem rwrite_f (kind : Int) (L : List UInt8) (hL : L.length ≤ 100000) : ∃ k, longlineref18_Write.f k kind ⟨L.toArray⟩ = some (writeO kind L) := by
  by_cases h1 : kind = 1
  · obtain ⟨k, hk⟩ := rwrite_j0 kind L hL ((⟨(cutL L 64).toArray⟩ : ByteArray).toList == (⟨L.toArray⟩ : ByteArray).toList) (by rw [beq_iff_eq, ba_toList, ba_toList]; exact ⟨fun h => ⟨h1, h⟩, fun h => h.2⟩)
    refine ⟨max k (2 * L.length + 10), ?_⟩
    unfold longlineref18_Write.f
    rw [if_pos h1, rcut_f L (by omega) 64 _ (Nat.le_max_right _ _), Option.bind_some]
    exact lift (fun k => longlineref18_Write.j0 k _ kind ⟨L.toArray⟩) (fun k => (longlineref18_Write.mono_l k) _ _ _) hk (Nat.le_max_left _ _)
  · obtain ⟨k, hk⟩ := rwrite_j0 kind L hL false (by simp [h1])
    refine ⟨k, ?_⟩
    unfold longlineref18_Write.f
    rw [if_neg h1]
    exact hk

/-- THE LAW OscWrites, plain. -/
theorem oscWrites_plain (a0_0 : Int) (a0_1 : ByteArray) : ∃ k, longlinelaw18_OscWrites.f k a0_0 a0_1 = some true := by
  obtain ⟨L, hL⟩ : ∃ L : List UInt8, L = a0_1.data.toList := ⟨_, rfl⟩
  have ha : a0_1 = ⟨L.toArray⟩ := by rw [hL, ba_eta]
  rw [ha]
  by_cases h : (L.length : Int) > 400
  · refine ⟨100, ?_⟩
    unfold longlinelaw18_OscWrites.f
    rw [ba_size, if_pos h, alive_f 100 (Nat.le_refl _), Option.bind_some]
  · obtain ⟨k, hk⟩ := rwrite_f a0_0 L (by omega)
    obtain ⟨K, hK⟩ : ∃ K, K = max k 1000 := ⟨_, rfl⟩
    have g := lift (fun k => longlineref18_Write.f k a0_0 ⟨L.toArray⟩) (fun k => longlineref18_Write.mono _ _ k) hk (show k ≤ K by omega)
    replace g : longlineref18_Write.f K a0_0 ⟨L.toArray⟩ = some (writeO a0_0 L) := g
    refine ⟨K, ?_⟩
    unfold longlinelaw18_OscWrites.f
    rw [ba_size, if_neg h, owrite_f a0_0 L (by omega) K (by omega), Option.bind_some, g, Option.bind_some, alive_f K (by omega), Option.bind_some, if_pos rfl, if_pos rfl]
    congr 1
    exact beq_iff_eq.2 rfl
end Go.Proofs.Ytdnkclccjgcelaa.OscC
