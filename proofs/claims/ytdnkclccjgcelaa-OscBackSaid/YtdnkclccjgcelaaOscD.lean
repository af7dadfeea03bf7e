/- OscBack, plain. -/
import Derived.Test.YtdnkclccjgcelaaQBOx12
import Derived.Test.YtdnkclccjgcelaaOscC
set_option linter.unusedSimpArgs false
set_option linter.unusedVariables false
namespace Go.Proofs.Ytdnkclccjgcelaa.OscD
open Go.RowKit Go.Proofs.Ytdnkclccjgcelaa.QBO Go.Proofs.YtdnkclccjgcelaaW.PrintWords Go.Proofs.YtdnkclccjgcelaaW.PrintLast
open Go.Proofs.Ytdnkclccjgcelaa.BaseW Go.Proofs.Ytdnkclccjgcelaa.BaseR Go.Proofs.Ytdnkclccjgcelaa.BaseC Go.Proofs.Ytdnkclccjgcelaa.BaseD Go.Proofs.Ytdnkclccjgcelaa.OscA Go.Proofs.Ytdnkclccjgcelaa.OscB Go.Proofs.Ytdnkclccjgcelaa.OscC
open Go.Proofs.YtdnkclccjgcelaaBW (enc)

theorem str_nums (L : List UInt8) : strOfNums (nums L) = ⟨L.toArray⟩ := by
  rw [nums_eq]
  unfold strOfNums
  congr 1
  rw [List.map_map]
  simp [Function.comp_def]
theorem back_not (s : List UInt8) : ∀ m, back s m = 0 ∨ within (s.getD (back s m) 0) = false
  | 0 => Or.inl rfl
  | m + 1 => by
    unfold back
    by_cases h : within (s.getD (m + 1) 0) = true
    · rw [if_pos h]; exact back_not s m
    · rw [if_neg h]; exact Or.inr (by simpa using h)

theorem there_back (kind : Int) (L : List UInt8) (hL : L.length ≤ 400) (h : (writeO kind L).2 = 0) : ∃ T : List UInt8, (writeO kind L).1 = ⟨T.toArray⟩ ∧ T.length ≤ 1000 ∧ readO T = (kind, ⟨L.toArray⟩, 0) := by
  unfold writeO at h ⊢
  by_cases h1 : kind = 1 ∧ cutL L 64 = L
  · rw [if_pos h1]
    refine ⟨50 :: 59 :: L, rfl, by simp; omega, ?_⟩
    unfold readO
    rw [if_pos (Or.inr (by simp))]
    simp only [List.drop_succ_cons, List.drop_zero]
    rw [h1.2, h1.1]
  · rw [if_neg h1] at h ⊢
    by_cases h2 : kind = 2
    · rw [if_pos h2] at h ⊢
      by_cases h6 : 256 < L.length
      · rw [if_pos h6] at h; exact absurd h (by decide)
      · rw [if_neg h6]
        have hl := nums_len L
        have he := enc_length _ (nums L) (Nat.le_refl _)
        have hg := enc_good _ (nums L) (Nat.le_refl _) (nums_bytes L)
        refine ⟨53 :: 50 :: 59 :: 99 :: 59 :: enc (nums L), rfl, by simp; omega, ?_⟩
        unfold readO
        rw [if_neg (by simp), if_pos (by simp)]
        simp only [List.drop_succ_cons, List.drop_zero]
        rw [clipL, if_pos (by decide +kernel), clipL, if_neg (by rw [not59]; decide), if_pos rfl, readClip, if_neg (by omega), hg.2, if_neg (by omega), h2]
        unfold outB
        rw [str_nums]
    · rw [if_neg h2] at h; exact absurd h (by decide)

theorem cut_take (s : List UInt8) (most : Int) : ∃ n, cutL s most = s.take n ∧ n ≤ s.length ∧ (n = s.length ∨ ((n : Int) ≤ most ∨ n = 0) ∧ (n = 0 ∨ within (s.getD n 0) = false)) ∧ ((s.length : Int) ≤ most → n = s.length) := by
  unfold cutL
  by_cases h : (s.length : Int) ≤ most
  · rw [if_pos h]
    exact ⟨s.length, by simp, Nat.le_refl _, Or.inl rfl, fun _ => rfl⟩
  · rw [if_neg h]
    have hb := back_le s most.toNat
    by_cases h0 : most < 0
    · have : most.toNat = 0 := by omega
      rw [this]
      exact ⟨0, rfl, Nat.zero_le _, Or.inr ⟨Or.inr rfl, Or.inl rfl⟩, fun h => by omega⟩
    · exact ⟨back s most.toNat, rfl, by omega, Or.inr ⟨Or.inl (by omega), back_not s _⟩, fun h' => absurd h' h⟩
theorem cut_cut (s : List UInt8) (most : Int) : cutL (cutL s most) most = cutL s most := by
  obtain ⟨n, hn, hle, hc, hm⟩ := cut_take s most
  rw [hn]
  have hlen : (s.take n).length = n := by rw [List.length_take]; omega
  unfold cutL
  by_cases h : ((s.take n).length : Int) ≤ most
  · rw [if_pos h]
  · rw [if_neg h]
    rw [hlen] at h
    rcases hc with hc | ⟨hc | hc, _⟩
    · -- n is all of s: then s is longer than most, and was cut to its own length
      have hs : ¬ (s.length : Int) ≤ most := by omega
      unfold cutL at hn
      rw [if_neg hs] at hn
      have hb := back_le s most.toNat
      have hl2 : (s.take (back s most.toNat)).length = (s.take n).length := by rw [hn]
      rw [List.length_take, hlen] at hl2
      have : n = 0 := by omega
      rw [this]; simp
    · omega
    · rw [hc]; simp

theorem last (k : Nat) (hk : 5000 ≤ k) (s : List UInt8) (hs : s.length ≤ 1500) (most : Int) : longlinelaw18_OscBack.j2 (k + 1) ⟨s.toArray⟩ most false = some true := by
  obtain ⟨n, hn, hle, hc, hm⟩ := cut_take s most
  have hlen : (s.take n).length = n := by rw [List.length_take]; omega
  have hcc : cutL (s.take n) most = s.take n := by rw [← hn]; exact cut_cut s most
  simp only [longlinelaw18_OscBack.j2]
  rw [if_neg (by decide), cut_f s (by omega) most k (by omega), hn, Option.bind_some, ba_size, ba_size, hlen, if_neg (by omega), if_pos (by omega), if_pos (by omega), ext0, if_pos rfl, cut_f (s.take n) (by omega) most k (by omega), hcc, Option.bind_some, if_pos rfl, alive_f k (by omega)]
  simp only [Option.bind_some, if_pos trivial]
  by_cases hl : n = s.length
  · subst hl
    rw [if_neg (by omega), if_pos rfl]
  · rcases hc with hc | ⟨h1, h2⟩
    · exact absurd hc hl
    · have hfin : (if (n : Int) = (s.length : Int) then some true else (if (bt ⟨s.toArray⟩ (n : Int)) < 128 then (some true) else (if (bt ⟨s.toArray⟩ (n : Int)) > 191 then (some true) else (some ((n : Int) == 0))))) = some true := by
        rw [if_neg (by omega), bt_get s n (by omega)]
        rcases h2 with h2 | h2
        · by_cases g1 : ((s.getD n 0).toNat : Int) < 128
          · rw [if_pos g1]
          · rw [if_neg g1]
            by_cases g2 : ((s.getD n 0).toNat : Int) > 191
            · rw [if_pos g2]
            · rw [if_neg g2]; congr 1; exact beq_iff_eq.2 (by omega)
        · unfold within at h2
          rw [Bool.and_eq_false_iff, decide_eq_false_iff_not, decide_eq_false_iff_not] at h2
          by_cases g1 : ((s.getD n 0).toNat : Int) < 128
          · rw [if_pos g1]
          · rw [if_neg g1, if_pos (by omega)]
      rw [if_pos (by omega)]
      by_cases h3 : (n : Int) > most
      · rw [if_pos h3, if_neg (by omega)]
        exact hfin
      · rw [if_neg h3]
        exact hfin

theorem mid (k : Nat) (hk : 15000 ≤ k) (s : List UInt8) (hs : s.length ≤ 1500) (most : Int) : longlinelaw18_OscBack.j1 (k + 2) ⟨s.toArray⟩ most = some true := by
  have hlast := last k (by omega) s hs most
  simp only [longlinelaw18_OscBack.j1]
  rw [oread_f s (by omega) (k + 1) (by omega), Option.bind_some]
  unfold readO
  by_cases h2 : s.take 2 = [48, 59] ∨ s.take 2 = [50, 59]
  · have hl2 : 2 ≤ s.length := by
      have : (s.take 2).length = 2 := by rcases h2 with h | h <;> rw [h] <;> rfl
      rw [List.length_take] at this
      omega
    rw [if_pos h2, if_pos rfl, if_pos rfl, ba_size, ba_size]
    obtain ⟨n, hn, hle, hc, hm⟩ := cut_take (s.drop 2) 64
    rw [List.length_drop] at hle hc hm
    have hlen : ((s.drop 2).take n).length = n := by rw [List.length_take, List.length_drop]; omega
    have h64 : n ≤ 64 := by
      rcases hc with hc | ⟨h | h, _⟩
      · by_cases h : ((s.length - 2 : Nat) : Int) ≤ 64
        · omega
        · have e := hn
          unfold cutL at e
          rw [List.length_drop, if_neg h] at e
          have hb := back_le (s.drop 2) (64 : Int).toNat
          have hl3 : ((s.drop 2).take (back (s.drop 2) (64 : Int).toNat)).length = ((s.drop 2).take n).length := by rw [e]
          rw [List.length_take, hlen] at hl3
          omega
      · omega
      · omega
    rw [hn, hlen, if_neg (by omega), w64 (by omega) (by omega), if_pos (by omega), if_pos (by omega)]
    have hx : (⟨s.toArray⟩ : ByteArray).extract 2 ((2 + (n : Int))).toNat = ⟨((s.drop 2).take n).toArray⟩ := by
      have e := ext_pre (s.take 2) (s.drop 2) (2 + n)
      rw [List.take_append_drop, List.length_take, Nat.min_eq_left hl2] at e
      rw [show (2 + (n : Int)).toNat = 2 + n by omega, e, show 2 + n - 2 = n by omega]
    rw [hx, if_pos rfl, if_neg (show ¬ (1 : Int) = 2 by decide)]
    exact hlast
  · rw [if_neg h2]
    by_cases h3 : s.take 3 = [53, 50, 59]
    · rw [if_pos h3]
      obtain ⟨r, hr⟩ : ∃ r, r = clipL (s.drop 3) := ⟨_, rfl⟩
      have hcl : ∀ l : List UInt8, (clipL l).2.2 = 0 → (clipL l).1 = 2 ∧ (clipL l).2.1.length ≤ 256 := by
        intro l
        induction l with
        | nil => intro h; exact absurd h (by decide)
        | cons c u ih =>
          intro h
          rw [clipL] at h ⊢
          by_cases hw : isW c = true
          · rw [if_pos hw] at h ⊢; exact ih h
          · rw [if_neg hw] at h ⊢
            by_cases h59 : c = 59
            · rw [if_pos h59] at h ⊢
              unfold readClip at h ⊢
              by_cases g1 : 90000 < u.length ∨ 0 ≤ fault u
              · rw [if_pos g1] at h; exact absurd h (by decide)
              · rw [if_neg g1] at h ⊢
                by_cases g2 : 256 < (dec u).length
                · rw [if_pos g2] at h; exact absurd h (by decide)
                · rw [if_neg g2]; exact ⟨rfl, by show (dec u).length ≤ 256; omega⟩
            · rw [if_neg h59] at h; exact absurd h (by decide)
      have hs2 : ∀ xs : List Int, (strOfNums xs).size = xs.length := fun xs => by unfold strOfNums; simp [ByteArray.size]
      show (if (clipL (s.drop 3)).2.2 = 0 then _ else _) = _
      by_cases h0 : (clipL (s.drop 3)).2.2 = 0
      · obtain ⟨c1, c2⟩ := hcl _ h0
        rw [if_pos h0]
        unfold outB
        simp only [c1]
        rw [if_neg (by decide), if_pos (by decide), hs2, decide_eq_false (by omega)]
        exact hlast
      · rw [if_neg h0]
        exact hlast
    · rw [if_neg h3, if_neg (by decide)]
      exact hlast

/-- THE LAW OscBack, plain. -/
theorem oscBack_plain (a0_0 : Int) (a0_1 a1 : ByteArray) (a2 : Int) : ∃ k, longlinelaw18_OscBack.f k a0_0 a0_1 a1 a2 = some true := by
  obtain ⟨L, hL⟩ : ∃ L : List UInt8, L = a0_1.data.toList := ⟨_, rfl⟩
  have ha : a0_1 = ⟨L.toArray⟩ := by rw [hL, ba_eta]
  obtain ⟨s, hs⟩ : ∃ s : List UInt8, s = a1.data.toList := ⟨_, rfl⟩
  have hb : a1 = ⟨s.toArray⟩ := by rw [hs, ba_eta]
  rw [ha, hb]
  obtain ⟨K, hK⟩ : ∃ K : Nat, K = 20000 := ⟨_, rfl⟩
  have skip : longlinelaw18_OscBack.j0 (K + 3) ⟨s.toArray⟩ a2 true a0_0 ⟨L.toArray⟩ = some true := by
    simp only [longlinelaw18_OscBack.j0]
    rw [if_pos trivial, alive_f _ (by omega), Option.bind_some]
  refine ⟨K + 3, ?_⟩
  unfold longlinelaw18_OscBack.f
  rw [ba_size, ba_size]
  by_cases h : (L.length : Int) > 400
  · rw [if_pos h]; exact skip
  · rw [if_neg h]
    by_cases h2 : (s.length : Int) > 1500
    · rw [decide_eq_true h2]; exact skip
    · rw [decide_eq_false h2]
      have hmid := mid K (by omega) s (by omega) a2
      simp only [longlinelaw18_OscBack.j0]
      rw [if_neg (by decide), owrite_f a0_0 L (by omega) (K + 2) (by omega), Option.bind_some]
      by_cases h0 : (writeO a0_0 L).2 = 0
      · obtain ⟨T, e1, e2, e3⟩ := there_back a0_0 L (by omega) h0
        rw [if_pos h0, e1, oread_f T (by omega) (K + 2) (by omega), Option.bind_some, e3, if_pos rfl, if_neg (by simp)]
        exact hmid
      · rw [if_neg h0]
        exact hmid
end Go.Proofs.Ytdnkclccjgcelaa.OscD
