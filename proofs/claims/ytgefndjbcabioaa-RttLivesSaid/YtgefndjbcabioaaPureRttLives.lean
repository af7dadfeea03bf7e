/- RttLives: for every list of measures and doublings the law's printed function answers true, given enough rounds: the meter and the document's meter go together. -/
import Derived.Test.YtgefndjbcabioaaQRttx4
import Derived.Test.YtgefndjbcabioaaRttFacts
import Derived.KernelRfl
namespace Go.Proofs.Ytgefndjbcabioaa.Pure
open Go.RowKit Go.Proofs.Ytgefndjbcabioaa.QRtt Go.Proofs.YtgefndjbcabioaaW.PrintWords Go.Proofs.YtgefndjbcabioaaW.PrintLast
open Go.Proofs.Ytgefndjbcabioaa.RttFacts

theorem rttLives_alive {k : Nat} (hk : 10 ≤ k) : longlinelaw08_alive.f k = some true :=
  at_rounds (g := longlinelaw08_alive.f) (fun k => longlinelaw08_alive.mono k) hk (by kernel_rfl)

theorem dbl_cl (n : Nat) (x : Int) (h0 : 2 ≤ x) (h1 : x ≤ 1000000) : dbl n (cl x) = dbl n x := by
  by_cases h : x ≤ 64
  · rw [cl_id h0 h]
  · rw [cl_big (by omega), dbl_64 n 64 (by omega) (by omega), dbl_64 n x (by omega) h1]

theorem ref_j2 (k : Nat) (w : Int) (hk : 1 ≤ k) : longlineref08_Wait.j2 k w = some (cl w) := by
  obtain ⟨k, rfl⟩ : ∃ j, k = j + 1 := ⟨k - 1, by omega⟩
  simp only [longlineref08_Wait.j2]; unfold cl mn mx
  (repeat' split) <;> first | rfl | omega | (congr 1; omega)

theorem ref_l0 (M V B : Int) (K : Bool) : ∀ (n k : Nat) (i w : Int), 0 ≤ i → i + n = B → B ≤ 6 → 1 ≤ w → w ≤ 1000000 → n + 1 < k →
    longlineref08_Wait.l0 k w i M V B K = some (dbl n w) := by
  intro n
  induction n with
  | zero =>
    intro k i w h0 h1 h2 hw hw1 hk
    obtain ⟨k, rfl⟩ : ∃ j, k = j + 1 := ⟨k - 1, by omega⟩
    simp only [longlineref08_Wait.l0]; rw [if_neg (by omega), ref_j2 k w (by omega)]; rfl
  | succ n ih =>
    intro k i w h0 h1 h2 hw hw1 hk
    obtain ⟨k, rfl⟩ : ∃ j, k = j + 1 := ⟨k - 1, by omega⟩
    simp only [longlineref08_Wait.l0]; rw [if_pos (by omega)]
    by_cases c : w < 64
    · rw [if_pos c, w64 (n := i + 1) (by omega) (by omega), w64 (n := 2 * w) (by omega) (by omega), ih k (i + 1) (2 * w) (by omega) (by omega) h2 (by omega) (by omega) (by omega)]
      simp only [dbl]; rw [w64 (n := 2 * w) (by omega) (by omega), dbl_cl n (2 * w) (by omega) (by omega)]
    · rw [if_neg c, ref_j2 k w (by omega), cl_big (by omega), dbl_64 (n + 1) w (by omega) hw1]

theorem ref_wait (K : Bool) (M V B : Int) (k : Nat) (h : Inv K M V) (h0 : 0 ≤ B) (h1 : B ≤ 6) (hk : 10 ≤ k) :
    longlineref08_Wait.f k M V B K = some (dbl B.toNat (W0 K M V)) := by
  obtain ⟨k, rfl⟩ : ∃ j, k = j + 1 := ⟨k - 1, by omega⟩
  have H := fun w hw hw1 => ref_l0 M V B K B.toNat k 0 w (by omega) (by omega) h1 hw hw1 (by omega)
  rcases h with ⟨rfl, rfl, rfl⟩ | ⟨rfl, a, b, c, d⟩
  · simp only [longlineref08_Wait.f, longlineref08_Wait.j0, Bool.false_eq_true, if_false, W0]; exact H 4 (by omega) (by omega)
  · simp only [longlineref08_Wait.f, longlineref08_Wait.j0, if_true, W0]
    have e : M.tdiv 8 = M / 8 := Int.tdiv_eq_ediv_of_nonneg a
    rw [e, w64 (n := M / 8) (by omega) (by omega)]
    by_cases c1 : V > 1
    · have : mx 1 V = V := by unfold mx; rw [if_pos (by omega)]
      rw [if_pos c1, this, w64 (n := M / 8 + V) (by omega) (by omega)]; exact H _ (by omega) (by omega)
    · have : mx 1 V = 1 := by unfold mx; rw [if_neg (by omega)]
      rw [if_neg c1, this, w64 (n := M / 8 + 1) (by omega) (by omega)]; exact H _ (by omega) (by omega)

theorem ref_measure (K : Bool) (M V B n : Int) (h : Inv K M V) (h0 : 0 ≤ n) (h1 : n ≤ 65536) :
    longlineref08_Measure.f M V B K n = some (M1 K M n, V1 K M V n, 0, true) := by
  rcases h with ⟨rfl, rfl, rfl⟩ | ⟨rfl, a, b, c, d⟩
  · simp only [longlineref08_Measure.f, Bool.false_eq_true, if_false, M1, V1]
    rw [w64 (n := 8 * n) (by omega) (by omega), w64 (n := 2 * n) (by omega) (by omega)]
  · simp only [longlineref08_Measure.f, if_true, M1, V1]
    have e : M.tdiv 8 = M / 8 := Int.tdiv_eq_ediv_of_nonneg a
    have e2 : V.tdiv 4 = V / 4 := Int.tdiv_eq_ediv_of_nonneg c
    rw [e, e2, w64 (n := M / 8) (by omega) (by omega), w64 (n := V / 4) (by omega) (by omega), w64 (n := n - M / 8) (by omega) (by omega), w64 (n := -(n - M / 8)) (by omega) (by omega),
      w64 (n := M + (n - M / 8)) (by omega) (by omega), w64 (n := V - V / 4) (by omega) (by omega)]
    by_cases c0 : n - M / 8 < 0
    · rw [if_pos c0, if_pos c0, w64 (by omega) (by omega)]
    · rw [if_neg c0, if_neg c0, w64 (by omega) (by omega)]

theorem ref_back (K : Bool) (M V B : Int) (h0 : 0 ≤ B) (h1 : B ≤ 6) : longlineref08_Back.f M V B K = some (M, V, if B < 6 then B + 1 else 6, K) := by
  simp only [longlineref08_Back.f]
  by_cases c : B < 6
  · rw [if_pos c, if_pos c, w64 (by omega) (by omega)]
  · rw [if_neg c, if_neg c, show B = 6 by omega]

/-- Behind a measure or a doubling both meters tell the same; on to the next round. -/
theorem lives_j3 (l : List Int) (i m v b : Int) (kn : Bool) (k : Nat) (h : Inv kn m v) (hb0 : 0 ≤ b) (hb1 : b ≤ 6) (hi0 : 0 ≤ i) (hi1 : i ≤ 200) (hk : 10 ≤ k) :
    longlinelaw08_RttLives.j3 (k + 1) l i true kn m v b m v b kn = longlinelaw08_RttLives.l0 k l (i + 1) true kn m v b m v b kn := by
  have hm : 0 ≤ m ∧ m ≤ 524288 := by rcases h with ⟨_, rfl, _⟩ | ⟨_, a, b, _⟩ <;> omega
  simp only [longlinelaw08_RttLives.j3]; rw [wait_eq kn m v b k hb0 hb1 (by omega)]
  simp only [Option.bind_some]; rw [ref_wait kn m v b k h hb0 hb1 hk]
  simp only [Option.bind_some, if_true]; rw [mean_eq kn m v b h]
  simp only [Option.bind_some]
  rw [Int.tdiv_eq_ediv_of_nonneg hm.1, w64 (n := m / 8) (by omega) (by omega), if_pos rfl]
  simp only [rtt_Meter_Backs.f, Option.bind_some, if_true]; rw [w64 (n := i + 1) (by omega) (by omega)]

/-- The end: what is nil, or was not made, says so. -/
theorem lives_end (l : List Int) (i m v b M V B : Int) (mk kn K : Bool) (k : Nat) (hk : 10 ≤ k) : longlinelaw08_RttLives.j1 (k + 1) l i false mk kn m v b M V B K = some true := by
  have hz : wrap64 (wrap64 (wrap64 (0 + 0) + 0) + 0) = 0 := by kernel_rfl
  simp only [longlinelaw08_RttLives.j1, Bool.false_eq_true, if_false]; rw [rttLives_alive hk]
  simp only [Option.bind_some, if_true, rtt_Meter_Measure_nil.f, rtt_Meter_Measure.f, rtt_Meter_Back_nil.f, rtt_Meter_Back.f, rtt_Meter_Wait_nil.f, rtt_Meter_Wait.f, rtt_Meter_Mean_nil.f, rtt_Meter_Backs_nil.f, Bool.false_eq_true, if_false]
  rw [hz]; rfl

theorem lives_l0 (l : List Int) : ∀ (d : Nat) (k : Nat) (i m v b : Int) (kn : Bool), Inv kn m v → 0 ≤ b → b ≤ 6 → 0 ≤ i → i + d = 200 → 4 * d + 20 ≤ k →
    longlinelaw08_RttLives.l0 k l i true kn m v b m v b kn = some true := by
  intro d
  induction d with
  | zero =>
    intro k i m v b kn h hb0 hb1 hi0 hd hk
    obtain ⟨k, rfl⟩ : ∃ j, k = j + 2 := ⟨k - 2, by omega⟩
    simp only [longlinelaw08_RttLives.l0]; rw [decide_eq_false (show ¬ i < 200 by omega), lives_end _ _ _ _ _ _ _ _ _ _ _ _ (by omega)]; simp
  | succ d ih =>
    intro k i m v b kn h hb0 hb1 hi0 hd hk
    obtain ⟨k, rfl⟩ : ∃ j, k = j + 4 := ⟨k - 4, by omega⟩
    simp only [longlinelaw08_RttLives.l0]; rw [decide_eq_true (show i < 200 by omega)]
    by_cases c : i < (l.length : Int)
    · rw [if_pos c]; simp only [longlinelaw08_RttLives.j1, if_true]; rw [if_pos hi0, if_pos c]
      by_cases c1 : rd l i = -1
      · rw [if_pos c1, ref_back kn m v b hb0 hb1]
        simp only [Option.bind_some]; rw [back_eq kn m v b hb0 hb1]
        simp only [Option.bind_some, if_true]
        have hb' : 0 ≤ (if b < 6 then b + 1 else 6) ∧ (if b < 6 then b + 1 else 6) ≤ 6 := by split <;> omega
        rw [lives_j3 l i m v _ kn (k + 1) h hb'.1 hb'.2 hi0 (by omega) (by omega)]
        exact ih _ _ _ _ _ _ h hb'.1 hb'.2 (by omega) (by omega) (by omega)
      · have hbad : ∀ (hn : rd l i < 0 ∨ 65536 < rd l i), longlinelaw08_RttLives.j2 (k + 2) l i true true kn m v b m v b kn = some true := by
          intro hn
          simp only [longlinelaw08_RttLives.j2, if_true]; rw [if_pos hi0, if_pos c, measure_bad kn m v b _ _ hn (by omega)]
          simp only [Option.bind_some, if_true]
          rw [lives_j3 l i m v b kn k h hb0 hb1 hi0 (by omega) (by omega)]
          exact ih _ _ _ _ _ _ h hb0 hb1 (by omega) (by omega) (by omega)
        rw [if_neg c1]
        by_cases c2 : rd l i < 0
        · rw [if_pos c2]; exact hbad (.inl c2)
        · rw [if_neg c2]
          by_cases c3 : rd l i > 65536
          · rw [decide_eq_true c3]; exact hbad (.inr c3)
          · rw [decide_eq_false c3]
            simp only [longlinelaw08_RttLives.j2, Bool.false_eq_true, if_false]; rw [if_pos hi0, if_pos c, ref_measure kn m v b _ h (by omega) (by omega)]
            simp only [Option.bind_some]; rw [measure_eq kn m v b _ _ h (by omega) (by omega) (by omega)]
            simp only [Option.bind_some, if_true]
            rw [lives_j3 l i _ _ 0 true k (inv1 h (by omega) (by omega)) (by omega) (by omega) hi0 (by omega) (by omega)]
            exact ih _ _ _ _ _ _ (inv1 h (by omega) (by omega)) (by omega) (by omega) (by omega) (by omega) (by omega)
    · rw [if_neg c, lives_end _ _ _ _ _ _ _ _ _ _ _ _ (by omega)]

theorem RttLives : longlinelaw08_RttLives.Pure := by
  intro l _ _ _
  obtain ⟨K, hK⟩ : ∃ K : Nat, K = 820 := ⟨_, rfl⟩
  refine ⟨K, ?_⟩
  rw [longlinelaw08_RttLives.f, rtt_New.f, Option.bind_some]
  exact lives_l0 l 200 K 0 0 0 0 false (.inl ⟨rfl, rfl, rfl⟩) (by omega) (by omega) (by omega) (by omega) (by omega)

end Go.Proofs.Ytgefndjbcabioaa.Pure
