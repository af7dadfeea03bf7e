/- RttBounds: for every list of measures and every number of doublings the law's printed function answers true, given enough rounds. -/
import Derived.Test.YtgefndjbcabioaaQRttx5
import Derived.Test.YtgefndjbcabioaaRttFacts
import Derived.Laws.BitsLemmas
import Derived.KernelRfl
namespace Go.Proofs.Ytgefndjbcabioaa.Pure
open Go.RowKit Go.Proofs.Ytgefndjbcabioaa.QRtt Go.Proofs.YtgefndjbcabioaaW.PrintWords Go.Proofs.YtgefndjbcabioaaW.PrintLast
open Go.Proofs.Ytgefndjbcabioaa.RttFacts

theorem rttBounds_alive {k : Nat} (hk : 10 ≤ k) : longlinelaw08_alive.f k = some true :=
  at_rounds (g := longlinelaw08_alive.f) (fun k => longlinelaw08_alive.mono k) hk (by kernel_rfl)

theorem rttBounds_l1 (a1 : Int) (kn : Bool) (m v : Int) (h : Inv kn m v) (ha0 : 0 ≤ a1) (ha1 : a1 ≤ 255) : ∀ (d : Nat) (k : Nat) (i : Int), 0 ≤ i → i + d = a1 % 16 → d + 12 ≤ k →
    longlinelaw08_RttBounds.l1 k a1 i true kn m v (if i < 6 then i else 6) = some true := by
  have e16 : Go.bits .and .u8 a1 15 = a1 % 16 := Go.u8_and15 _ ha0 (by omega)
  have hw := W0_bd h
  intro d
  induction d with
  | zero =>
    intro k i h0 h1 hk
    obtain ⟨k, rfl⟩ : ∃ j, k = j + 1 := ⟨k - 1, by omega⟩
    simp only [longlinelaw08_RttBounds.l1]; rw [e16, w64 (by omega) (by omega), if_neg (by omega), rttBounds_alive (by omega)]
    simp only [Option.bind_some, if_true]
    by_cases h6 : a1 % 16 < 6
    · rw [if_pos h6]
    · rw [if_neg h6, if_neg (by omega), wait_eq kn m v 6 k (by omega) (by omega) (by omega)]
      simp only [Option.bind_some, show (6 : Int).toNat = 6 from rfl]
      rw [dbl_six]; rfl
  | succ d ih =>
    intro k i h0 h1 hk
    obtain ⟨k, rfl⟩ : ∃ j, k = j + 1 := ⟨k - 1, by omega⟩
    have hb : 0 ≤ (if i < 6 then i else 6) ∧ (if i < 6 then i else 6) ≤ 6 := by split <;> omega
    simp only [longlinelaw08_RttBounds.l1]; rw [e16, w64 (n := a1 % 16) (by omega) (by omega), if_pos (by omega), wait_eq kn m v _ k hb.1 hb.2 (by omega)]
    simp only [Option.bind_some]
    rw [back_eq kn m v _ hb.1 hb.2]
    simp only [Option.bind_some, if_true]
    have eb : (if (if i < 6 then i else 6) < 6 then (if i < 6 then i else 6) + 1 else 6) = (if i + 1 < 6 then i + 1 else 6) := by
      by_cases c : i < 6
      · rw [if_pos c, if_pos c]; split <;> omega
      · rw [if_neg c, if_neg (by omega), if_neg (by omega)]
    rw [eb]
    have hb' : 0 ≤ (if i + 1 < 6 then i + 1 else 6) ∧ (if i + 1 < 6 then i + 1 else 6) ≤ 6 := by split <;> omega
    rw [wait_eq kn m v _ k hb'.1 hb'.2 (by omega)]
    simp only [Option.bind_some]
    have up : dbl (if i < 6 then i else 6).toNat (W0 kn m v) ≤ dbl (if i + 1 < 6 then i + 1 else 6).toNat (W0 kn m v) := by
      by_cases c : i < 6
      · by_cases c' : i + 1 < 6
        · rw [if_pos c, if_pos c', show (i + 1).toNat = i.toNat + 1 by omega]; exact dbl_up _ _ hw.1 hw.2
        · rw [if_pos c, if_neg c', show (6 : Int).toNat = i.toNat + 1 by omega]; exact dbl_up _ _ hw.1 hw.2
      · rw [if_neg c, if_neg (by omega)]; omega
    have hi := dbl_hi (if i + 1 < 6 then i + 1 else 6).toNat (W0 kn m v)
    rw [if_neg (by omega), wait_eq kn m v _ k hb'.1 hb'.2 (by omega)]
    simp only [Option.bind_some]
    rw [if_neg (by omega), w64 (n := i + 1) (by omega) (by omega)]
    exact ih k (i + 1) (by omega) (by omega) (by omega)

theorem rttBounds_l0 (l : List Int) (a1 : Int) (hx : ∀ x ∈ l, (Lit.int .u16 x).wf = true) (ha0 : 0 ≤ a1) (ha1 : a1 ≤ 255) :
    ∀ (d : Nat) (k : Nat) (i : Int) (kn : Bool) (m v : Int), Inv kn m v → 0 ≤ i → i + d = 200 → 2 * d + 40 ≤ k →
    longlinelaw08_RttBounds.l0 k l a1 i true kn m v 0 = some true := by
  intro d
  induction d with
  | zero =>
    intro k i kn m v h h0 h1 hk
    obtain ⟨k, rfl⟩ : ∃ j, k = j + 2 := ⟨k - 2, by omega⟩
    have H := rttBounds_l1 a1 kn m v h ha0 ha1 (a1 % 16).toNat k 0 (by omega) (by omega) (by omega)
    have hd : decide (i < 200) = false := decide_eq_false (by omega)
    have H' : longlinelaw08_RttBounds.j1 (k + 1) l a1 i false true kn m v 0 = some true := by
      simp only [longlinelaw08_RttBounds.j1, Bool.false_eq_true, if_false]; exact H
    simp only [longlinelaw08_RttBounds.l0]; rw [hd]; split <;> exact H'
  | succ d ih =>
    intro k i kn m v h h0 h1 hk
    obtain ⟨k, rfl⟩ : ∃ j, k = j + 2 := ⟨k - 2, by omega⟩
    have H := rttBounds_l1 a1 kn m v h ha0 ha1 (a1 % 16).toNat k 0 (by omega) (by omega) (by omega)
    have hd : decide (i < 200) = true := decide_eq_true (by omega)
    have H' : longlinelaw08_RttBounds.j1 (k + 1) l a1 i false true kn m v 0 = some true := by
      simp only [longlinelaw08_RttBounds.j1, Bool.false_eq_true, if_false]; exact H
    simp only [longlinelaw08_RttBounds.l0]; rw [hd]
    by_cases c : i < (l.length : Int)
    · rw [if_pos c]
      simp only [longlinelaw08_RttBounds.j1, if_true]; rw [if_pos h0, if_pos c]
      have hr : 0 ≤ rd l i ∧ rd l i ≤ 65535 := by
        have hm : rd l i ∈ l := rd_mem h0 c
        exact Go.bounds_u16 (hx _ hm)
      rw [w64 (n := rd l i) (by omega) (by omega), measure_eq kn m v 0 _ k h hr.1 (by omega) (by omega)]
      simp only [Option.bind_some, if_true]
      rw [wait_eq true _ _ 0 k (by omega) (by omega) (by omega)]
      simp only [Option.bind_some]
      have lo := dbl_lo (0 : Int).toNat (W0 true (M1 kn m (rd l i)) (V1 kn m v (rd l i)))
      have hi := dbl_hi (0 : Int).toNat (W0 true (M1 kn m (rd l i)) (V1 kn m v (rd l i)))
      rw [if_neg (by omega), wait_eq true _ _ 0 k (by omega) (by omega) (by omega)]
      simp only [Option.bind_some]
      rw [if_neg (by omega), w64 (n := i + 1) (by omega) (by omega)]
      exact ih k (i + 1) true _ _ (inv1 h hr.1 (by omega)) (by omega) (by omega) (by omega)
    · rw [if_neg c]; exact H'

theorem RttBounds : longlinelaw08_RttBounds.Pure := by
  intro l a1 _ _ hx ha
  have hb := Go.bounds_u8 ha
  refine ⟨441, ?_⟩
  simp only [longlinelaw08_RttBounds.f, rtt_New.f, Option.bind_some]
  exact rttBounds_l0 l a1 hx hb.1 hb.2 200 441 0 false 0 0 (.inl ⟨rfl, rfl, rfl⟩) (by omega) (by omega) (by omega)

end Go.Proofs.Ytgefndjbcabioaa.Pure
