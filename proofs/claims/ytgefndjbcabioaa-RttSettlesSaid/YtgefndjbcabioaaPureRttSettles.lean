/- RttSettles: for every measure and every number of rounds the law's printed function answers true, given enough rounds. -/
import Derived.Test.YtgefndjbcabioaaQRttx5
import Derived.Test.YtgefndjbcabioaaRttFacts
import Derived.Laws.BitsLemmas
import Derived.KernelRfl
namespace Go.Proofs.Ytgefndjbcabioaa.Pure
open Go.RowKit Go.Proofs.Ytgefndjbcabioaa.QRtt Go.Proofs.YtgefndjbcabioaaW.PrintWords Go.Proofs.YtgefndjbcabioaaW.PrintLast
open Go.Proofs.Ytgefndjbcabioaa.RttFacts

theorem rttSettles_alive {k : Nat} (hk : 10 ≤ k) : longlinelaw08_alive.f k = some true :=
  at_rounds (g := longlinelaw08_alive.f) (fun k => longlinelaw08_alive.mono k) hk (by kernel_rfl)

/-- The spread behind i + 1 measures of n. -/
def vs (n : Int) : Nat → Int
  | 0 => 2 * n
  | i + 1 => vs n i - vs n i / 4

theorem vs_bd (n : Int) (h0 : 0 ≤ n) (h1 : n ≤ 255) (i : Nat) : 0 ≤ vs n i ∧ vs n i ≤ 510 := by
  induction i with
  | zero => simp only [vs]; omega
  | succ i ih => simp only [vs]; omega

theorem vs_step (n : Int) (i : Nat) : vs n (i + 1) = vs n i - vs n i / 4 := rfl

theorem vs_zero (n : Int) : vs n 0 = 2 * n := rfl
attribute [irreducible] vs

theorem vs_40 (n : Int) (hlt : n < 60) (hgt : 1 < n) : 1 ≤ vs n 40 ∧ vs n 40 ≤ 3 := by
  have st := vs_step n
  have lo : ∀ i, 1 ≤ vs n i := by
    intro i
    induction i with
    | zero => rw [vs_zero]; omega
    | succ i ih => rw [st]; omega
  have h0 : vs n 0 ≤ 118 := by rw [vs_zero]; omega
  have h1 : vs n 1 ≤ 89 := by have h : vs n 1 = vs n 0 - vs n 0 / 4 := st 0; omega
  have h2 : vs n 2 ≤ 67 := by have h : vs n 2 = vs n 1 - vs n 1 / 4 := st 1; omega
  have h3 : vs n 3 ≤ 51 := by have h : vs n 3 = vs n 2 - vs n 2 / 4 := st 2; omega
  have h4 : vs n 4 ≤ 39 := by have h : vs n 4 = vs n 3 - vs n 3 / 4 := st 3; omega
  have h5 : vs n 5 ≤ 30 := by have h : vs n 5 = vs n 4 - vs n 4 / 4 := st 4; omega
  have h6 : vs n 6 ≤ 23 := by have h : vs n 6 = vs n 5 - vs n 5 / 4 := st 5; omega
  have h7 : vs n 7 ≤ 18 := by have h : vs n 7 = vs n 6 - vs n 6 / 4 := st 6; omega
  have h8 : vs n 8 ≤ 14 := by have h : vs n 8 = vs n 7 - vs n 7 / 4 := st 7; omega
  have h9 : vs n 9 ≤ 11 := by have h : vs n 9 = vs n 8 - vs n 8 / 4 := st 8; omega
  have h10 : vs n 10 ≤ 9 := by have h : vs n 10 = vs n 9 - vs n 9 / 4 := st 9; omega
  have h11 : vs n 11 ≤ 7 := by have h : vs n 11 = vs n 10 - vs n 10 / 4 := st 10; omega
  have h12 : vs n 12 ≤ 6 := by have h : vs n 12 = vs n 11 - vs n 11 / 4 := st 11; omega
  have h13 : vs n 13 ≤ 5 := by have h : vs n 13 = vs n 12 - vs n 12 / 4 := st 12; omega
  have h14 : vs n 14 ≤ 4 := by have h : vs n 14 = vs n 13 - vs n 13 / 4 := st 13; omega
  have h15 : vs n 15 ≤ 3 := by have h : vs n 15 = vs n 14 - vs n 14 / 4 := st 14; omega
  have hi : ∀ d, vs n (15 + d) ≤ 3 := by
    intro d
    induction d with
    | zero => exact h15
    | succ d ih => have := st (15 + d); have := lo (15 + d); rw [show 15 + (d + 1) = 15 + d + 1 from rfl]; omega
  exact ⟨lo 40, hi 25⟩

theorem wait_of (n v : Int) (h0 : 0 ≤ n) (h1 : n ≤ 255) (hv0 : 0 ≤ v) (hv1 : v ≤ 510) : dbl 0 (W0 true (8 * n) v) = cl (n + mx 1 v) := by
  have e : Int.tdiv (8 * n) 8 = n := by rw [Int.tdiv_eq_ediv_of_nonneg (by omega)]; omega
  have hm : 1 ≤ mx 1 v ∧ mx 1 v ≤ 510 := by unfold mx; split <;> omega
  simp only [dbl, W0, if_true]
  rw [e, w64 (n := n) (by omega) (by omega), w64 (by omega) (by omega)]

/-- One round. -/
theorem settles_round (n a1 last i : Int) (kn : Bool) (m v : Int) (j k : Nat) (hn0 : 0 ≤ n) (hn1 : n ≤ 255) (ha0 : 0 ≤ a1) (ha1 : a1 ≤ 255) (h : Inv kn m v)
    (hM : M1 kn m n = 8 * n) (hV : V1 kn m v n = vs n j) (hi : i = j) (hle : i ≤ a1 % 64) (hlast : cl (n + mx 1 (vs n j)) ≤ last) (hk : 10 ≤ k) :
    longlinelaw08_RttSettles.l0 (k + 2) n a1 last i true kn m v 0 = longlinelaw08_RttSettles.l0 k n a1 (cl (n + mx 1 (vs n j))) (i + 1) true true (8 * n) (vs n j) 0 := by
  have e64 : Go.bits .and .u8 a1 63 = a1 % 64 := Go.u8_and63 _ ha0 (by omega)
  have hb := vs_bd n hn0 hn1 j
  have hI : Inv true (8 * n) (vs n j) := .inr ⟨rfl, by omega, by omega, hb.1, by omega⟩
  have hw := wait_of n (vs n j) hn0 hn1 hb.1 hb.2
  simp only [longlinelaw08_RttSettles.l0]; rw [e64, w64 (n := a1 % 64) (by omega) (by omega), if_pos hle, w64 (n := n) (by omega) (by omega), measure_eq kn m v 0 n (k + 1) h hn0 (by omega) (by omega)]
  simp only [Option.bind_some, if_true]
  rw [hM, hV, mean_eq true (8 * n) (vs n j) 0 hI]
  simp only [Option.bind_some]
  rw [if_pos (show 8 * n / 8 = n by omega), wait_eq true (8 * n) (vs n j) 0 (k + 1) (by omega) (by omega) (by omega)]
  simp only [Option.bind_some, show (0 : Int).toNat = 0 from rfl]
  rw [hw, decide_eq_false (show ¬ (cl (n + mx 1 (vs n j)) > last) by omega)]
  simp only [longlinelaw08_RttSettles.j1, Bool.false_eq_true, if_false]
  rw [wait_eq true (8 * n) (vs n j) 0 k (by omega) (by omega) (by omega)]
  simp only [Option.bind_some, show (0 : Int).toNat = 0 from rfl]
  rw [hw, w64 (n := i + 1) (by omega) (by omega)]
  by_cases c : i = 40
  · rw [if_pos c]
    by_cases c1 : n > 1
    · rw [if_pos c1]
      by_cases c2 : n < 60
      · have hj : j = 40 := by omega
        subst hj
        have h40 := vs_40 n (by omega) (by omega)
        have hmx : 1 ≤ mx 1 (vs n 40) ∧ mx 1 (vs n 40) ≤ 3 := by unfold mx; split <;> omega
        rw [if_pos c2, w64 (n := n) (by omega) (by omega), w64 (n := n + 1) (by omega) (by omega), w64 (n := n + 3) (by omega) (by omega), cl_id (by omega) (by omega), if_neg (by omega), if_neg (by omega)]
      · rw [if_neg c2]
    · rw [if_neg c1]
  · rw [if_neg c]

theorem settles_end (n a1 last i : Int) (kn : Bool) (m v : Int) (k : Nat) (ha0 : 0 ≤ a1) (ha1 : a1 ≤ 255) (hgt : a1 % 64 < i) (hk : 10 ≤ k) :
    longlinelaw08_RttSettles.l0 (k + 1) n a1 last i true kn m v 0 = some true := by
  have e64 : Go.bits .and .u8 a1 63 = a1 % 64 := Go.u8_and63 _ ha0 (by omega)
  simp only [longlinelaw08_RttSettles.l0]; rw [e64, w64 (n := a1 % 64) (by omega) (by omega), if_neg (by omega), rttSettles_alive hk]; rfl

theorem settles_l0 (n a1 : Int) (hn0 : 0 ≤ n) (hn1 : n ≤ 255) (ha0 : 0 ≤ a1) (ha1 : a1 ≤ 255) : ∀ (d j k : Nat), (j : Int) + 1 + d = a1 % 64 + 1 → 2 * d + 12 ≤ k →
    longlinelaw08_RttSettles.l0 k n a1 (cl (n + mx 1 (vs n j))) ((j : Int) + 1) true true (8 * n) (vs n j) 0 = some true := by
  intro d
  induction d with
  | zero =>
    intro j k h hk
    obtain ⟨k, rfl⟩ : ∃ q, k = q + 1 := ⟨k - 1, by omega⟩
    exact settles_end _ _ _ _ _ _ _ _ ha0 ha1 (by omega) (by omega)
  | succ d ih =>
    intro j k h hk
    obtain ⟨k, rfl⟩ : ∃ q, k = q + 2 := ⟨k - 2, by omega⟩
    have hb := vs_bd n hn0 hn1 j
    have hI : Inv true (8 * n) (vs n j) := .inr ⟨rfl, by omega, by omega, hb.1, by omega⟩
    have e8 : 8 * n / 8 = n := by omega
    rw [settles_round n a1 _ _ true (8 * n) (vs n j) (j + 1) k hn0 hn1 ha0 ha1 hI (by simp only [M1, if_true]; omega) (by simp only [V1, if_true, e8, vs_step]; split <;> omega) (by omega) (by omega)
      (cl_mono (by have : vs n (j + 1) ≤ vs n j := by rw [vs_step]; omega
                   unfold mx; (repeat' split) <;> omega)) (by omega)]
    exact ih (j + 1) k (by omega) (by omega)

theorem RttSettles : longlinelaw08_RttSettles.Pure := by
  intro n a1 hn ha
  have bn := Go.bounds_u8 hn
  have ba := Go.bounds_u8 ha
  obtain ⟨K, hK⟩ : ∃ K : Nat, K = 150 := ⟨_, rfl⟩
  refine ⟨K + 2, ?_⟩
  rw [longlinelaw08_RttSettles.f, rtt_New.f, Option.bind_some]
  have H1 := settles_round n a1 64 0 false 0 0 0 K bn.1 bn.2 ba.1 ba.2 (.inl ⟨rfl, rfl, rfl⟩) (by simp [M1]) (by simp [V1, vs_zero]) (by omega) (by omega) (cl_hi _) (by omega)
  have H2 := settles_l0 n a1 bn.1 bn.2 ba.1 ba.2 (a1 % 64).toNat 0 K (by omega) (by omega)
  rw [Int.natCast_zero] at H2
  exact H1.trans H2

end Go.Proofs.Ytgefndjbcabioaa.Pure
