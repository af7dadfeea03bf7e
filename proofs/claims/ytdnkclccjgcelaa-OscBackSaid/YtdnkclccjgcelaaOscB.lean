/- What the document's osc reads: the same. -/
import Derived.Test.YtdnkclccjgcelaaOscA
set_option linter.unusedSimpArgs false
set_option linter.unusedVariables false
namespace Go.Proofs.Ytdnkclccjgcelaa.OscB
open Go.RowKit Go.Proofs.Ytdnkclccjgcelaa.QBO Go.Proofs.YtdnkclccjgcelaaW.PrintWords Go.Proofs.YtdnkclccjgcelaaW.PrintLast
open Go.Proofs.Ytdnkclccjgcelaa.BaseW Go.Proofs.Ytdnkclccjgcelaa.BaseR Go.Proofs.Ytdnkclccjgcelaa.BaseC Go.Proofs.Ytdnkclccjgcelaa.BaseD Go.Proofs.Ytdnkclccjgcelaa.OscA
open Go.Proofs.YtdnkclccjgcelaaBW (enc)

theorem rread_clip (L u : List UInt8) (i : Nat) (hL : L.length ≤ 1000000) (hi : L.length = i + (u.length + 1)) (hd : L.drop (i + 1) = u) : ∃ k, longlineref18_Read.j4 k ⟨L.toArray⟩ (i : Int) false = some (outB (readClip u)) := by
  obtain ⟨k1, h1⟩ := ref_read u (by omega)
  have g1 := lift (fun k => longlineref14_Read.f k ⟨u.toArray⟩) (fun k => longlineref14_Read.mono _ k) h1 (show k1 ≤ k1 + 1 by omega)
  replace g1 : longlineref14_Read.f (k1 + 1) ⟨u.toArray⟩ = _ := g1
  refine ⟨k1 + 1 + 1, ?_⟩
  have hx := ext_drop L (i + 1) (by omega)
  rw [hd, ba_size] at hx
  simp only [longlineref18_Read.j4]
  rw [if_neg (by decide), w64 (by omega) (by omega), ba_size, if_pos (by omega), if_pos (by omega), show ((i : Int) + 1).toNat = i + 1 by omega, hx, g1, Option.bind_some, w64 (n := (L.length : Int) - (i : Int)) (by omega) (by omega), w64 (by omega) (by omega)]
  unfold readClip
  by_cases hf : fault u < 0
  · rw [if_pos hf, if_pos rfl]
    simp only [longlineref18_Read.j5]
    by_cases h9 : 90000 < u.length
    · rw [decide_eq_true (show (L.length : Int) - (i : Int) - 1 > 90000 by omega), if_pos rfl, if_pos (Or.inl h9)]; rfl
    · rw [decide_eq_false (show ¬ (L.length : Int) - (i : Int) - 1 > 90000 by omega), if_neg (by decide), if_neg (show ¬ (90000 < u.length ∨ 0 ≤ fault u) by omega)]
      by_cases h2 : 256 < (dec u).length
      · rw [if_pos (by omega), if_pos h2]; rfl
      · rw [if_neg (by omega), if_neg h2]; rfl
  · rw [if_neg hf, if_neg (by decide)]
    simp only [longlineref18_Read.j5]
    rw [if_pos trivial, if_pos (Or.inr (by omega))]; rfl

theorem rclip_l0 (L : List UInt8) (hL : L.length ≤ 1000000) : ∀ (l pre : List UInt8), L = pre ++ l → ∃ k, longlineref18_Read.l0 k ⟨L.toArray⟩ pre.length = some (outB (clipL l)) := by
  intro l
  induction l with
  | nil =>
    intro pre hp
    have hlen : L.length = pre.length := by rw [hp]; simp
    refine ⟨3, ?_⟩
    simp only [longlineref18_Read.l0, longlineref18_Read.j3, longlineref18_Read.j4]
    rw [ba_size, if_neg (by omega), if_pos (by omega), if_pos trivial]
    rfl
  | cons c u ih =>
    intro pre hp
    have hlen : L.length = pre.length + (u.length + 1) := by rw [hp]; simp
    have hc : L.getD pre.length 0 = c := by rw [hp]; exact getD_pre pre (c :: u) 0
    obtain ⟨kr, hrec⟩ := ih (pre ++ [c]) (by rw [hp]; simp)
    rw [List.length_append, List.length_singleton] at hrec
    rw [clipL]
    by_cases hw : isW c = true
    · refine ⟨kr + 1, ?_⟩
      simp only [longlineref18_Read.l0]
      rw [ba_size, if_pos (by omega), if_pos (by omega), bt_get L _ (by omega), hc, isWhich_f, Option.bind_some, if_pos hw, if_pos hw, w64 (by omega) (by omega)]
      exact hrec
    · have hj : ∃ k, longlineref18_Read.j3 k ⟨L.toArray⟩ (pre.length : Int) = some (outB (if c = 59 then readClip u else (0, [], 3))) := by
        by_cases h59 : c = 59
        · obtain ⟨k, hk⟩ := rread_clip L u pre.length hL hlen (by rw [hp, ← List.drop_drop]; simp)
          refine ⟨k + 1, ?_⟩
          simp only [longlineref18_Read.j3]
          rw [ba_size, if_neg (by omega), if_pos (by omega), if_pos (by omega), bt_get L _ (by omega), hc, show ((c.toNat : Int) != 59) = false from bne_eq_false_iff_eq.2 ((eq59 c).2 h59), if_pos h59]
          exact hk
        · refine ⟨2, ?_⟩
          simp only [longlineref18_Read.j3, longlineref18_Read.j4]
          rw [ba_size, if_neg (by omega), if_pos (by omega), if_pos (by omega), bt_get L _ (by omega), hc, show ((c.toNat : Int) != 59) = true from bne_iff_ne.2 (fun h => h59 ((eq59 c).1 h)), if_pos rfl, if_neg h59]
          rfl
      obtain ⟨k, hk⟩ := hj
      refine ⟨k + 1, ?_⟩
      simp only [longlineref18_Read.l0]
      rw [ba_size, if_pos (by omega), if_pos (by omega), bt_get L _ (by omega), hc, isWhich_f, Option.bind_some, if_neg hw, if_neg hw]
      exact hk

theorem rread_j0 (L : List UInt8) (hL : L.length ≤ 1000000) (b : Bool) (hb : b = true → 2 ≤ L.length) : ∃ k, longlineref18_Read.j0 k ⟨L.toArray⟩ b = some (if b = true then (1, ⟨(cutL (L.drop 2) 64).toArray⟩, 0) else if L.take 3 = [53, 50, 59] then outB (clipL (L.drop 3)) else (0, ⟨#[]⟩, 4)) := by
  by_cases h : b = true
  · have h2 := hb h
    have hx := ext_drop L 2 h2
    rw [ba_size] at hx
    refine ⟨2 * L.length + 10 + 1, ?_⟩
    simp only [longlineref18_Read.j0]
    rw [if_pos h, ba_size, if_pos (by omega), if_pos h, hx, rcut_f (L.drop 2) (by rw [List.length_drop]; omega) 64 _ (by rw [List.length_drop]; omega), Option.bind_some]
  · rw [if_neg h]
    by_cases h3 : L.length < 3
    · have hne : L.take 3 ≠ [53, 50, 59] := fun e => by
        have : (L.take 3).length = 3 := by rw [e]; rfl
        rw [List.length_take] at this
        omega
      refine ⟨2, ?_⟩
      simp only [longlineref18_Read.j0, longlineref18_Read.j1]
      rw [if_neg h, ba_size, if_pos (by omega), if_pos trivial, if_neg hne]
    · have e0 : ∀ k, longlineref18_Read.j0 (k + 1) ⟨L.toArray⟩ b = longlineref18_Read.j1 k ⟨L.toArray⟩ (L.take 3 != ([53, 50, 59] : List UInt8)) := fun k => by
        simp only [longlineref18_Read.j0]
        rw [if_neg h, ba_size, if_neg (by omega), if_pos (by omega), if_pos (by omega), ext0, ba_toList]
      by_cases h5 : L.take 3 = [53, 50, 59]
      · obtain ⟨k, hk⟩ := rclip_l0 L hL (L.drop 3) (L.take 3) (by simp)
        rw [List.length_take, Nat.min_eq_left (by omega)] at hk
        refine ⟨k + 1 + 1, ?_⟩
        rw [e0, show (L.take 3 != ([53, 50, 59] : List UInt8)) = false from bne_eq_false_iff_eq.2 h5, if_pos h5]
        simp only [longlineref18_Read.j1]
        rw [if_neg (by decide)]
        exact hk
      · refine ⟨1 + 1, ?_⟩
        rw [e0, show (L.take 3 != ([53, 50, 59] : List UInt8)) = true from bne_iff_ne.2 h5, if_neg h5]
        simp only [longlineref18_Read.j1]
        rw [if_pos trivial]

theorem rread_f (L : List UInt8) (hL : L.length ≤ 1000000) : ∃ k, longlineref18_Read.f k ⟨L.toArray⟩ = some (readO L) := by
  have hlen : ∀ p : List UInt8, p.length = 2 → L.take 2 = p → 2 ≤ L.length := fun p hp h => by
    have : (L.take 2).length = 2 := by rw [h, hp]
    rw [List.length_take] at this
    omega
  by_cases h2 : 2 ≤ L.length
  · by_cases h0 : L.take 2 = [48, 59]
    · obtain ⟨k, hk⟩ := rread_j0 L hL true (fun _ => h2)
      refine ⟨k, ?_⟩
      unfold longlineref18_Read.f readO
      rw [ba_size, if_pos (by omega), if_pos (by omega), if_pos (by omega), ext0, ba_toList, if_pos h0, hk, if_pos rfl, if_pos (Or.inl h0)]
    · obtain ⟨k, hk⟩ := rread_j0 L hL (L.take 2 == [50, 59]) (fun _ => h2)
      refine ⟨k, ?_⟩
      unfold longlineref18_Read.f readO
      rw [ba_size, if_pos (by omega), if_pos (by omega), if_pos (by omega), ext0, ba_toList, if_neg h0, hk]
      by_cases h5 : L.take 2 = [50, 59]
      · rw [if_pos (beq_iff_eq.2 h5), if_pos (Or.inr h5)]
      · rw [if_neg (by simpa using h5), if_neg (show ¬ (L.take 2 = [48, 59] ∨ L.take 2 = [50, 59]) from fun h => h.elim h0 h5)]
  · obtain ⟨k, hk⟩ := rread_j0 L hL false (fun h => by cases h)
    refine ⟨k, ?_⟩
    unfold longlineref18_Read.f readO
    rw [ba_size, if_neg (by omega), hk, if_neg (by decide), if_neg (show ¬ (L.take 2 = [48, 59] ∨ L.take 2 = [50, 59]) from fun h => h.elim (fun e => h2 (hlen _ rfl e)) (fun e => h2 (hlen _ rfl e)))]

theorem alive_f (k : Nat) (hk : 100 ≤ k) : longlinelaw18_alive.f k = some true :=
  lift (fun k => longlinelaw18_alive.f k) (fun k => longlinelaw18_alive.mono k) (show longlinelaw18_alive.f 100 = some true by kernel_rfl) hk
end Go.Proofs.Ytdnkclccjgcelaa.OscB
