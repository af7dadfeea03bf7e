/- What the meter's printed functions come to: plain facts for the three laws of rtt. -/
import Derived.Test.YtgefndjbcabioaaQRttx2
import Derived.OpenShut
namespace Go.Proofs.Ytgefndjbcabioaa.RttFacts
open Go.RowKit Go.Proofs.Ytgefndjbcabioaa.QRtt Go.Proofs.YtgefndjbcabioaaW.PrintWords Go.Proofs.YtgefndjbcabioaaW.PrintLast

theorem w64 {n : Int} (h0 : -9223372036854775808 ≤ n) (h1 : n < 9223372036854775808) : wrap64 n = n := by unfold wrap64; omega

/-- A wait, held between 2 and 64. -/
def cl (x : Int) : Int := mn (mx x 2) 64
/-- n doublings, each held. -/
def dbl : Nat → Int → Int
  | 0, w => cl w
  | n + 1, w => dbl n (cl (wrap64 (2 * w)))
/-- The wait ahead of all doubling. -/
def W0 (kn : Bool) (m v : Int) : Int := if kn = true then wrap64 (wrap64 (Int.tdiv m 8) + mx 1 v) else 4

theorem cl_lo (x : Int) : 2 ≤ cl x := by unfold cl mn mx; (repeat' split) <;> omega
theorem cl_hi (x : Int) : cl x ≤ 64 := by unfold cl mn mx; (repeat' split) <;> omega
theorem cl_mono {x y : Int} (h : x ≤ y) : cl x ≤ cl y := by unfold cl mn mx; (repeat' split) <;> omega
theorem cl_id {x : Int} (h0 : 2 ≤ x) (h1 : x ≤ 64) : cl x = x := by unfold cl mn mx; (repeat' split) <;> omega
theorem cl_big {x : Int} (h : 64 ≤ x) : cl x = 64 := by unfold cl mn mx; (repeat' split) <;> omega

theorem dbl_lo (n : Nat) : ∀ w, 2 ≤ dbl n w := by induction n with | zero => exact fun w => cl_lo w | succ n ih => exact fun w => ih _
theorem dbl_hi (n : Nat) : ∀ w, dbl n w ≤ 64 := by induction n with | zero => exact fun w => cl_hi w | succ n ih => exact fun w => ih _

/-- On what is held, a doubling is 'min (2 * w) 64'. -/
theorem dbl_mono (n : Nat) : ∀ w w', 0 ≤ w → w ≤ w' → w' ≤ 1000000 → dbl n w ≤ dbl n w' := by
  induction n with
  | zero => exact fun w w' _ h _ => cl_mono h
  | succ n ih =>
    intro w w' h0 h h1
    have e := w64 (n := 2 * w) (by omega) (by omega)
    have e' := w64 (n := 2 * w') (by omega) (by omega)
    simp only [dbl]; rw [e, e']
    have a := cl_lo (2 * w); have b := cl_hi (2 * w')
    exact ih _ _ (by omega) (cl_mono (by omega)) (by omega)

theorem dbl_64 (n : Nat) : ∀ w, 64 ≤ w → w ≤ 1000000 → dbl n w = 64 := by
  induction n with
  | zero => exact fun w h _ => cl_big h
  | succ n ih =>
    intro w h h1
    simp only [dbl]; rw [w64 (by omega) (by omega), cl_big (by omega)]
    exact ih 64 (by omega) (by omega)

theorem dbl_up (n : Nat) (w : Int) (h0 : 0 ≤ w) (h1 : w ≤ 1000000) : dbl n w ≤ dbl (n + 1) w := by
  simp only [dbl]; rw [w64 (by omega) (by omega)]
  by_cases h : w ≤ 64
  · refine dbl_mono n _ _ h0 ?_ (by have := cl_hi (2 * w); omega)
    by_cases e : w ≤ 2
    · have := cl_lo (2 * w); omega
    · by_cases e2 : w ≤ 32
      · rw [cl_id (by omega) (by omega)]; omega
      · rw [cl_big (by omega)]; omega
  · rw [dbl_64 n w (by omega) h1, cl_big (by omega), dbl_64 n 64 (by omega) (by omega)]; omega

theorem dbl_six (w : Int) : dbl 6 w = 64 := by
  have step : ∀ (x c : Int), c ≤ x → 0 ≤ c → x ≤ 1000000 → mn (2 * c) 64 ≤ cl (wrap64 (2 * x)) := by
    intro x c h hc hx
    rw [w64 (by omega) (by omega)]
    have := cl_hi (2 * x)
    unfold cl mn mx; (repeat' split) <;> omega
  have hle := dbl_hi 6 w
  have hge : 64 ≤ dbl 6 w := by
    simp only [dbl]
    have b1 : (2 : Int) ≤ cl (wrap64 (2 * w)) := cl_lo _
    have u1 := cl_hi (wrap64 (2 * w))
    generalize cl (wrap64 (2 * w)) = x1 at *
    have b2 : (4 : Int) ≤ cl (wrap64 (2 * x1)) := by have := step x1 2 b1 (by omega) (by omega); simpa [mn] using this
    have u2 := cl_hi (wrap64 (2 * x1))
    generalize cl (wrap64 (2 * x1)) = x2 at *
    have b3 : (8 : Int) ≤ cl (wrap64 (2 * x2)) := by have := step x2 4 b2 (by omega) (by omega); simpa [mn] using this
    have u3 := cl_hi (wrap64 (2 * x2))
    generalize cl (wrap64 (2 * x2)) = x3 at *
    have b4 : (16 : Int) ≤ cl (wrap64 (2 * x3)) := by have := step x3 8 b3 (by omega) (by omega); simpa [mn] using this
    have u4 := cl_hi (wrap64 (2 * x3))
    generalize cl (wrap64 (2 * x3)) = x4 at *
    have b5 : (32 : Int) ≤ cl (wrap64 (2 * x4)) := by have := step x4 16 b4 (by omega) (by omega); simpa [mn] using this
    have u5 := cl_hi (wrap64 (2 * x4))
    generalize cl (wrap64 (2 * x4)) = x5 at *
    have b6 : (64 : Int) ≤ cl (wrap64 (2 * x5)) := by have := step x5 32 b5 (by omega) (by omega); simpa [mn] using this
    have u6 := cl_hi (wrap64 (2 * x5))
    rw [cl_big b6]; omega
  omega

theorem wait_l0 (mk kn : Bool) (m v bb : Int) : ∀ (n : Nat) (k : Nat) (i w : Int), 0 ≤ i → i + n = bb → bb ≤ 6 → n < k →
    rtt_Meter_Wait.l0 k w bb i mk kn m v bb = some (dbl n w, mk, kn, m, v, bb) := by
  intro n
  induction n with
  | zero =>
    intro k i w h0 h1 h2 hk
    obtain ⟨k, rfl⟩ : ∃ j, k = j + 1 := ⟨k - 1, by omega⟩
    simp only [rtt_Meter_Wait.l0]; rw [if_neg (by omega)]; rfl
  | succ n ih =>
    intro k i w h0 h1 h2 hk
    obtain ⟨k, rfl⟩ : ∃ j, k = j + 1 := ⟨k - 1, by omega⟩
    simp only [rtt_Meter_Wait.l0]; rw [if_pos (by omega)]
    simp only [rtt_clamp_int.f, Option.bind_some]
    rw [w64 (n := i + 1) (by omega) (by omega)]
    exact ih k (i + 1) _ (by omega) (by omega) h2 (by omega)

theorem wait_eq (kn : Bool) (m v b : Int) (k : Nat) (h0 : 0 ≤ b) (h1 : b ≤ 6) (hk : 9 ≤ k) :
    rtt_Meter_Wait.f k true kn m v b = some (dbl b.toNat (W0 kn m v), true, kn, m, v, b) := by
  obtain ⟨k, rfl⟩ : ∃ j, k = j + 1 := ⟨k - 1, by omega⟩
  have H := fun w => wait_l0 true kn m v b b.toNat k 0 w (by omega) (by omega) h1 (by omega)
  cases kn
  · simp only [rtt_Meter_Wait.f, rtt_Meter_Wait.j0, if_true, W0, Bool.false_eq_true, if_false]; exact H _
  · simp only [rtt_Meter_Wait.f, rtt_Meter_Wait.j0, if_true, W0]; exact H _

theorem back_eq (kn : Bool) (m v b : Int) (h0 : 0 ≤ b) (h1 : b ≤ 6) :
    rtt_Meter_Back.f true kn m v b = some (0, true, kn, m, v, if b < 6 then b + 1 else 6) := by
  simp only [rtt_Meter_Back.f, if_true]; rw [w64 (by omega) (by omega)]
  have : mn (b + 1) 6 = if b < 6 then b + 1 else 6 := by unfold mn; (repeat' split) <;> omega
  rw [this]

/-- The bounds of a meter's mean and spread. -/
def Inv (kn : Bool) (m v : Int) : Prop := kn = false ∧ m = 0 ∧ v = 0 ∨ kn = true ∧ 0 ≤ m ∧ m ≤ 524288 ∧ 0 ≤ v ∧ v ≤ 262144

theorem W0_bd {kn : Bool} {m v : Int} (h : Inv kn m v) : 0 ≤ W0 kn m v ∧ W0 kn m v ≤ 1000000 := by
  rcases h with ⟨rfl, rfl, rfl⟩ | ⟨rfl, a, b, c, d⟩
  · simp [W0]
  · simp only [W0, if_true]
    have e : m.tdiv 8 = m / 8 := Int.tdiv_eq_ediv_of_nonneg a
    rw [e, w64 (n := m / 8) (by omega) (by omega)]
    have : 1 ≤ mx 1 v ∧ mx 1 v ≤ 262145 := by unfold mx; split <;> omega
    rw [w64 (by omega) (by omega)]; omega

/-- The mean and the spread behind a measure. -/
def M1 (kn : Bool) (m n : Int) : Int := if kn = true then m + (n - m / 8) else 8 * n
def V1 (kn : Bool) (m v n : Int) : Int := if kn = true then v - v / 4 + (if n - m / 8 < 0 then -(n - m / 8) else n - m / 8) else 2 * n

theorem inv1 {kn : Bool} {m v n : Int} (h : Inv kn m v) (h0 : 0 ≤ n) (h1 : n ≤ 65536) : Inv true (M1 kn m n) (V1 kn m v n) := by
  refine .inr ⟨rfl, ?_⟩
  rcases h with ⟨rfl, rfl, rfl⟩ | ⟨rfl, a, b, c, d⟩
  · simp [M1, V1]; omega
  · simp only [M1, V1, if_true]; split <;> omega

theorem measure_eq (kn : Bool) (m v b n : Int) (k : Nat) (h : Inv kn m v) (h0 : 0 ≤ n) (h1 : n ≤ 65536) (hk : 1 ≤ k) :
    rtt_Meter_Measure.f k true kn m v b n = some (0, true, true, M1 kn m n, V1 kn m v n, 0) := by
  obtain ⟨k, rfl⟩ : ∃ j, k = j + 1 := ⟨k - 1, by omega⟩
  have hd : decide (n > 65536) = false := decide_eq_false (by omega)
  simp only [rtt_Meter_Measure.f, if_true]; rw [if_neg (by omega), hd]
  simp only [rtt_Meter_Measure.j0, Bool.false_eq_true, if_false]
  rcases h with ⟨rfl, rfl, rfl⟩ | ⟨rfl, a, b, c, d⟩
  · simp only [Bool.false_eq_true, if_false, M1, V1]
    rw [w64 (n := 8 * n) (by omega) (by omega), w64 (n := 2 * n) (by omega) (by omega)]
  · simp only [if_true, M1, V1]
    have e : m.tdiv 8 = m / 8 := Int.tdiv_eq_ediv_of_nonneg a
    have e2 : v.tdiv 4 = v / 4 := Int.tdiv_eq_ediv_of_nonneg c
    rw [e, e2, w64 (n := m / 8) (by omega) (by omega), w64 (n := v / 4) (by omega) (by omega), w64 (n := n - m / 8) (by omega) (by omega), w64 (n := -(n - m / 8)) (by omega) (by omega)]
    have hx : mx (n - m / 8) (-(n - m / 8)) = if n - m / 8 < 0 then -(n - m / 8) else n - m / 8 := by unfold mx; (repeat' split) <;> omega
    rw [hx]
    have hb : 0 ≤ (if n - m / 8 < 0 then -(n - m / 8) else n - m / 8) ∧ (if n - m / 8 < 0 then -(n - m / 8) else n - m / 8) ≤ 70000 := by split <;> omega
    generalize (if n - m / 8 < 0 then -(n - m / 8) else n - m / 8) = z at *
    rw [w64 (n := z - v / 4) (by omega) (by omega), w64 (n := m + (n - m / 8)) (by omega) (by omega), w64 (n := v + (z - v / 4)) (by omega) (by omega)]
    have : v + (z - v / 4) = v - v / 4 + z := by omega
    rw [this]

theorem measure_bad (kn : Bool) (m v b n : Int) (k : Nat) (h : n < 0 ∨ 65536 < n) (hk : 1 ≤ k) :
    rtt_Meter_Measure.f k true kn m v b n = some (1, true, kn, m, v, b) := by
  obtain ⟨k, rfl⟩ : ∃ j, k = j + 1 := ⟨k - 1, by omega⟩
  simp only [rtt_Meter_Measure.f, if_true]
  by_cases h0 : n < 0
  · rw [if_pos h0]; simp only [rtt_Meter_Measure.j0, if_true]
  · have hd : decide (n > 65536) = true := decide_eq_true (by omega)
    rw [if_neg h0, hd]; simp only [rtt_Meter_Measure.j0, if_true]

theorem mean_eq (kn : Bool) (m v b : Int) (h : Inv kn m v) : rtt_Meter_Mean.f true kn m v b = some (m / 8, true, kn, m, v, b) := by
  have hm : 0 ≤ m ∧ m ≤ 524288 := by rcases h with ⟨_, rfl, _⟩ | ⟨_, a, b, _⟩ <;> omega
  simp only [rtt_Meter_Mean.f]
  rw [Int.tdiv_eq_ediv_of_nonneg hm.1, w64 (by omega) (by omega)]

theorem rd_mem {l : List Int} {i : Int} (h0 : 0 ≤ i) (h : i < (l.length : Int)) : rd l i ∈ l := by
  have hn : i.toNat < l.length := by omega
  unfold rd
  rw [List.getD_eq_getElem?_getD, List.getElem?_eq_getElem hn]
  exact List.getElem_mem hn
end Go.Proofs.Ytgefndjbcabioaa.RttFacts
