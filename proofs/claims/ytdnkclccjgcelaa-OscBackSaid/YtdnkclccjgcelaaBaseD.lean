/- What the document reads of letters: bit by bit; and where it finds a fault. -/
import Derived.Test.YtdnkclccjgcelaaQBOx4
import Derived.Test.YtdnkclccjgcelaaBaseC
set_option linter.unusedSimpArgs false
set_option linter.unusedVariables false
namespace Go.Proofs.Ytdnkclccjgcelaa.BaseD
open Go.RowKit Go.Proofs.Ytdnkclccjgcelaa.QBO Go.Proofs.YtdnkclccjgcelaaW.PrintWords Go.Proofs.YtdnkclccjgcelaaW.PrintLast
open Go.Proofs.Ytdnkclccjgcelaa.BaseW Go.Proofs.Ytdnkclccjgcelaa.BaseR Go.Proofs.Ytdnkclccjgcelaa.BaseC
open Go.Proofs.YtdnkclccjgcelaaBW (enc enc4 lett LET)
open Go.Proofs.YtdnkclccjgcelaaBE (val val_idx idx)

theorem lift {α : Type} (f : Nat → Option α) (hm : ∀ k, LeO (f k) (f (k + 1))) {a b : Nat} {r : α} (h : f a = some r) (hab : a ≤ b) : f b = some r := by
  induction hab with
  | refl => exact h
  | step _ ih => exact hm _ _ ih

theorem value_all : ((List.range 256).all fun n => longlineref14_value.f 70 (n : Int) == some (idx LET.data.toList n.toUInt8 0)) = true := by decide +kernel
theorem value_ref (c : UInt8) (k : Nat) (hk : 70 ≤ k) : longlineref14_value.f k (c.toNat : Int) = some (V c) := by
  have := List.all_eq_true.1 value_all c.toNat (List.mem_range.2 c.toNat_lt)
  rw [beq_iff_eq] at this
  have e : V c = idx LET.data.toList c.toNat.toUInt8 0 := by unfold V; rw [val_idx]; simp
  rw [← e] at this
  exact lift (fun k => longlineref14_value.f k (c.toNat : Int)) (fun k => longlineref14_value.mono _ k) this hk

def RL (s : ByteArray) (out : List Int) (v n : Int) (i : Nat) (r : List Int × Bool) : Prop := ∃ k, longlineref14_Read.l0 k s out v n i = some r
def RB (s : ByteArray) (out : List Int) (v n : Int) (i : Nat) (x p : Int) (r : List Int × Bool) : Prop := ∃ k, longlineref14_Read.l1 k s out v n i x p = some r

theorem bitstep (s : ByteArray) (out : List Int) (v n : Int) (i : Nat) (x p : Int) (r : List Int × Bool) (hx : 0 ≤ x) (hx2 : x < 64) (hv : 0 ≤ v) (hv2 : v < 128) (hn : 0 ≤ n) (hn2 : n ≤ 7) (hp : 0 < p) (hp2 : p ≤ 32) (ho : out.length < 100000000000000)
    (h : if n = 7 then RB s (out ++ [(2 * v + x / p % 2) % 256]) 0 0 i x (p / 2) r else RB s out (2 * v + x / p % 2) (n + 1) i x (p / 2) r) : RB s out v n i x p r := by
  have hxp : 0 ≤ x / p := Int.ediv_nonneg hx (by omega)
  have hxp2 : x / p ≤ x := Int.ediv_le_self _ hx
  have e1 : wrap64 ((wrap64 (2 * v)) + (Int.tmod (wrap64 (Int.tdiv x p)) 2)) = 2 * v + x / p % 2 := by
    rw [Int.tdiv_eq_ediv_of_nonneg hx, w64 (n := x / p) (by omega) (by omega), Int.tmod_eq_emod_of_nonneg hxp, w64 (n := 2 * v) (by omega) (by omega), w64 (by omega) (by omega)]
  have e2 : wrap64 (Int.tdiv p 2) = p / 2 := by rw [Int.tdiv_eq_ediv_of_nonneg (by omega), w64 (by omega) (by omega)]
  by_cases h7 : n = 7
  · rw [if_pos h7] at h
    obtain ⟨k, hk⟩ := h
    refine ⟨k + 1, ?_⟩
    simp only [longlineref14_Read.l1]
    rw [if_pos hp, if_neg (by omega), w64 (n := n + 1) (by omega) (by omega), if_pos (by omega), if_pos (by omega), e1, e2]
    exact hk
  · rw [if_neg h7] at h
    obtain ⟨k, hk⟩ := h
    refine ⟨k + 1, ?_⟩
    simp only [longlineref14_Read.l1]
    rw [if_pos hp, if_neg (by omega), w64 (n := n + 1) (by omega) (by omega), if_neg (by omega), e1, e2]
    exact hk
theorem bitend (s : ByteArray) (out : List Int) (v n : Int) (i : Nat) (x : Int) (r : List Int × Bool) (hi : i < 9000000000000000000) (h : RL s out v n (i + 1) r) : RB s out v n i x 0 r := by
  obtain ⟨k, hk⟩ := h
  refine ⟨k + 1, ?_⟩
  simp only [longlineref14_Read.l1]
  rw [if_neg (by decide), w64 (by omega) (by omega)]
  exact hk

theorem push0 (s : ByteArray) (out : List Int) (i : Nat) (x : Int) (r : List Int × Bool) (hx : 0 ≤ x) (hx2 : x < 64) (ho : out.length < 100000000000000) (hi : i < 9000000000000000000) (h : RL s out x 6 (i + 1) r) : RB s out 0 0 i x 32 r := by
  apply bitstep _ _ _ _ _ _ _ _ hx hx2 (by omega) (by omega) (by omega) (by omega) (by omega) (by omega) ho
  rw [if_neg (by decide)]
  apply bitstep _ _ _ _ _ _ _ _ hx hx2 (by omega) (by omega) (by omega) (by omega) (by omega) (by omega) ho
  rw [if_neg (by decide)]
  apply bitstep _ _ _ _ _ _ _ _ hx hx2 (by omega) (by omega) (by omega) (by omega) (by omega) (by omega) ho
  rw [if_neg (by decide)]
  apply bitstep _ _ _ _ _ _ _ _ hx hx2 (by omega) (by omega) (by omega) (by omega) (by omega) (by omega) ho
  rw [if_neg (by decide)]
  apply bitstep _ _ _ _ _ _ _ _ hx hx2 (by omega) (by omega) (by omega) (by omega) (by omega) (by omega) ho
  rw [if_neg (by decide)]
  apply bitstep _ _ _ _ _ _ _ _ hx hx2 (by omega) (by omega) (by omega) (by omega) (by omega) (by omega) ho
  rw [if_neg (by decide)]
  apply bitend _ _ _ _ _ _ _ hi
  have e : 2 * (2 * (2 * (2 * (2 * (2 * 0 + x / 32 % 2) + x / (32 / 2) % 2) + x / (32 / 2 / 2) % 2) + x / (32 / 2 / 2 / 2) % 2) + x / (32 / 2 / 2 / 2 / 2) % 2) + x / (32 / 2 / 2 / 2 / 2 / 2) % 2 = x := by omega
  rw [e]
  exact h
theorem push6 (s : ByteArray) (out : List Int) (v : Int) (i : Nat) (x : Int) (r : List Int × Bool) (hv : 0 ≤ v) (hv2 : v < 64) (hx : 0 ≤ x) (hx2 : x < 64) (ho : out.length < 10000000000000) (hi : i < 9000000000000000000) (h : RL s (out ++ [v * 4 + x / 16]) (x % 16) 4 (i + 1) r) : RB s out v 6 i x 32 r := by
  apply bitstep _ _ _ _ _ _ _ _ hx hx2 (by omega) (by omega) (by omega) (by omega) (by omega) (by omega) (by omega)
  rw [if_neg (by decide)]
  apply bitstep _ _ _ _ _ _ _ _ hx hx2 (by omega) (by omega) (by omega) (by omega) (by omega) (by omega) (by omega)
  rw [if_pos (by decide)]
  apply bitstep _ _ _ _ _ _ _ _ hx hx2 (by omega) (by omega) (by omega) (by omega) (by omega) (by omega) (by simp; omega)
  rw [if_neg (by decide)]
  apply bitstep _ _ _ _ _ _ _ _ hx hx2 (by omega) (by omega) (by omega) (by omega) (by omega) (by omega) (by simp; omega)
  rw [if_neg (by decide)]
  apply bitstep _ _ _ _ _ _ _ _ hx hx2 (by omega) (by omega) (by omega) (by omega) (by omega) (by omega) (by simp; omega)
  rw [if_neg (by decide)]
  apply bitstep _ _ _ _ _ _ _ _ hx hx2 (by omega) (by omega) (by omega) (by omega) (by omega) (by omega) (by simp; omega)
  rw [if_neg (by decide)]
  apply bitend _ _ _ _ _ _ _ hi
  have e : 2 * (2 * (2 * (2 * 0 + x / (32 / 2 / 2) % 2) + x / (32 / 2 / 2 / 2) % 2) + x / (32 / 2 / 2 / 2 / 2) % 2) + x / (32 / 2 / 2 / 2 / 2 / 2) % 2 = x % 16 := by omega
  have e2 : (2 * (2 * v + x / 32 % 2) + x / (32 / 2) % 2) % 256 = v * 4 + x / 16 := by omega
  rw [e, e2]
  exact h
theorem push4 (s : ByteArray) (out : List Int) (v : Int) (i : Nat) (x : Int) (r : List Int × Bool) (hv : 0 ≤ v) (hv2 : v < 16) (hx : 0 ≤ x) (hx2 : x < 64) (ho : out.length < 10000000000000) (hi : i < 9000000000000000000) (h : RL s (out ++ [v * 16 + x / 4]) (x % 4) 2 (i + 1) r) : RB s out v 4 i x 32 r := by
  apply bitstep _ _ _ _ _ _ _ _ hx hx2 (by omega) (by omega) (by omega) (by omega) (by omega) (by omega) (by omega)
  rw [if_neg (by decide)]
  apply bitstep _ _ _ _ _ _ _ _ hx hx2 (by omega) (by omega) (by omega) (by omega) (by omega) (by omega) (by omega)
  rw [if_neg (by decide)]
  apply bitstep _ _ _ _ _ _ _ _ hx hx2 (by omega) (by omega) (by omega) (by omega) (by omega) (by omega) (by omega)
  rw [if_neg (by decide)]
  apply bitstep _ _ _ _ _ _ _ _ hx hx2 (by omega) (by omega) (by omega) (by omega) (by omega) (by omega) (by omega)
  rw [if_pos (by decide)]
  apply bitstep _ _ _ _ _ _ _ _ hx hx2 (by omega) (by omega) (by omega) (by omega) (by omega) (by omega) (by simp; omega)
  rw [if_neg (by decide)]
  apply bitstep _ _ _ _ _ _ _ _ hx hx2 (by omega) (by omega) (by omega) (by omega) (by omega) (by omega) (by simp; omega)
  rw [if_neg (by decide)]
  apply bitend _ _ _ _ _ _ _ hi
  have e : 2 * (2 * 0 + x / (32 / 2 / 2 / 2 / 2) % 2) + x / (32 / 2 / 2 / 2 / 2 / 2) % 2 = x % 4 := by omega
  have e2 : (2 * (2 * (2 * (2 * v + x / 32 % 2) + x / (32 / 2) % 2) + x / (32 / 2 / 2) % 2) + x / (32 / 2 / 2 / 2) % 2) % 256 = v * 16 + x / 4 := by omega
  rw [e, e2]
  exact h
theorem push2 (s : ByteArray) (out : List Int) (v : Int) (i : Nat) (x : Int) (r : List Int × Bool) (hv : 0 ≤ v) (hv2 : v < 4) (hx : 0 ≤ x) (hx2 : x < 64) (ho : out.length < 10000000000000) (hi : i < 9000000000000000000) (h : RL s (out ++ [v * 64 + x]) 0 0 (i + 1) r) : RB s out v 2 i x 32 r := by
  apply bitstep _ _ _ _ _ _ _ _ hx hx2 (by omega) (by omega) (by omega) (by omega) (by omega) (by omega) (by omega)
  rw [if_neg (by decide)]
  apply bitstep _ _ _ _ _ _ _ _ hx hx2 (by omega) (by omega) (by omega) (by omega) (by omega) (by omega) (by omega)
  rw [if_neg (by decide)]
  apply bitstep _ _ _ _ _ _ _ _ hx hx2 (by omega) (by omega) (by omega) (by omega) (by omega) (by omega) (by omega)
  rw [if_neg (by decide)]
  apply bitstep _ _ _ _ _ _ _ _ hx hx2 (by omega) (by omega) (by omega) (by omega) (by omega) (by omega) (by omega)
  rw [if_neg (by decide)]
  apply bitstep _ _ _ _ _ _ _ _ hx hx2 (by omega) (by omega) (by omega) (by omega) (by omega) (by omega) (by omega)
  rw [if_neg (by decide)]
  apply bitstep _ _ _ _ _ _ _ _ hx hx2 (by omega) (by omega) (by omega) (by omega) (by omega) (by omega) (by omega)
  rw [if_pos (by decide)]
  apply bitend _ _ _ _ _ _ _ hi
  have e2 : (2 * (2 * (2 * (2 * (2 * (2 * v + x / 32 % 2) + x / (32 / 2) % 2) + x / (32 / 2 / 2) % 2) + x / (32 / 2 / 2 / 2) % 2) + x / (32 / 2 / 2 / 2 / 2) % 2) + x / (32 / 2 / 2 / 2 / 2 / 2) % 2) % 256 = v * 64 + x := by omega
  rw [e2]
  exact h

/-! ### one letter; the end -/
theorem letter_step (L : List UInt8) (out : List Int) (v n : Int) (i : Nat) (c : UInt8) (r : List Int × Bool) (hi : i < L.length) (hc : L.getD i 0 = c) (hne : c ≠ 61) (hV : 0 ≤ V c) (h : RB ⟨L.toArray⟩ out v n i (V c) 32 r) : RL ⟨L.toArray⟩ out v n i r := by
  obtain ⟨k, hk⟩ := h
  have hk2 := lift (fun k => longlineref14_Read.l1 k ⟨L.toArray⟩ out v n i (V c) 32) (fun k => (longlineref14_Read.mono_l k).2.2 _ _ _ _ _ _ _) hk (Nat.le_max_left k 70)
  refine ⟨max k 70 + 2, ?_⟩
  simp only [longlineref14_Read.l0, longlineref14_Read.j1]
  rw [ba_size, if_pos (by omega), if_pos (by omega), bt_get L i hi, hc, show ((c.toNat : Int) != 61) = true from bne_iff_ne.2 (fun h => hne ((eq61 c).1 h)), if_pos rfl, if_pos (by omega), if_pos (by omega), value_ref c _ (Nat.le_max_right k 70), Option.bind_some, if_neg (by omega)]
  exact hk2
theorem letter_bad (L : List UInt8) (out : List Int) (v n : Int) (i : Nat) (c : UInt8) (hi : i < L.length) (hc : L.getD i 0 = c) (hne : c ≠ 61) (hV : V c < 0) : RL ⟨L.toArray⟩ out v n i ([], false) := by
  refine ⟨72, ?_⟩
  simp only [longlineref14_Read.l0, longlineref14_Read.j1]
  rw [ba_size, if_pos (by omega), if_pos (by omega), bt_get L i hi, hc, show ((c.toNat : Int) != 61) = true from bne_iff_ne.2 (fun h => hne ((eq61 c).1 h)), if_pos rfl, if_pos (by omega), if_pos (by omega), value_ref c _ (Nat.le_refl _), Option.bind_some, if_pos hV]
theorem stop (L : List UInt8) (out : List Int) (v n : Int) (i : Nat) (hi : L.length ≤ i ∨ L.getD i 0 = 61) (hb : Bytes out) (hl : out.length ≤ 1000000000000) : RL ⟨L.toArray⟩ out v n i (if enc out = L then (out, true) else ([], false)) := by
  obtain ⟨k, hk⟩ := enc_of_ref out hb hl
  have hj : longlineref14_Read.j1 (k + 1) ⟨L.toArray⟩ out v n i false = some (if enc out = L then (out, true) else ([], false)) := by
    simp only [longlineref14_Read.j1]
    rw [if_neg (by decide), hk, Option.bind_some, ba_toList, ba_toList]
    split <;> rfl
  refine ⟨k + 2, ?_⟩
  simp only [longlineref14_Read.l0]
  rw [ba_size]
  by_cases h : i < L.length
  · rcases hi with hi | hi
    · omega
    · rw [if_pos (by omega), if_pos (by omega), bt_get L i h, hi]
      exact hj
  · rw [if_neg (by omega)]
    exact hj

/-- what waits -/
def Ok (v n : Int) : Prop := (n = 0 ∧ v = 0) ∨ (n = 6 ∧ 0 ≤ v ∧ v < 64) ∨ (n = 4 ∧ 0 ≤ v ∧ v < 16) ∨ (n = 2 ∧ 0 ≤ v ∧ v < 4)
theorem push (s : ByteArray) (out : List Int) (v n : Int) (i : Nat) (x : Int) (hok : Ok v n) (hx : 0 ≤ x) (hx2 : x < 64) (hb : Bytes out) (ho : out.length < 10000000000000) (hi : i < 9000000000000000000) :
    ∃ out' v' n', Ok v' n' ∧ Bytes out' ∧ out'.length ≤ out.length + 1 ∧ ∀ r, RL s out' v' n' (i + 1) r → RB s out v n i x 32 r := by
  have hb1 : ∀ y, 0 ≤ y → y < 256 → Bytes (out ++ [y]) := fun y h0 h1 z hz => by
    rcases List.mem_append.1 hz with h | h
    · exact hb z h
    · simp at h; omega
  rcases hok with ⟨rfl, rfl⟩ | ⟨rfl, h0, h1⟩ | ⟨rfl, h0, h1⟩ | ⟨rfl, h0, h1⟩
  · exact ⟨out, x, 6, Or.inr (Or.inl ⟨rfl, hx, hx2⟩), hb, by omega, fun r h => push0 s out i x r hx hx2 (by omega) hi h⟩
  · exact ⟨out ++ [v * 4 + x / 16], x % 16, 4, Or.inr (Or.inr (Or.inl ⟨rfl, by omega, by omega⟩)), hb1 _ (by omega) (by omega), by simp, fun r h => push6 s out v i x r h0 h1 hx hx2 ho hi h⟩
  · exact ⟨out ++ [v * 16 + x / 4], x % 4, 2, Or.inr (Or.inr (Or.inr ⟨rfl, by omega, by omega⟩)), hb1 _ (by omega) (by omega), by simp, fun r h => push4 s out v i x r h0 h1 hx hx2 ho hi h⟩
  · exact ⟨out ++ [v * 64 + x], 0, 0, Or.inl ⟨rfl, rfl⟩, hb1 _ (by omega) (by omega), by simp, fun r h => push2 s out v i x r h0 h1 hx hx2 ho hi h⟩

theorem getD_pre (pre l : List UInt8) (t : Nat) : (pre ++ l).getD (pre.length + t) 0 = l.getD t 0 := by
  rw [List.getD_eq_getElem?_getD, List.getElem?_append_right (by omega), show pre.length + t - pre.length = t by omega, ← List.getD_eq_getElem?_getD]

theorem read_bad (L : List UInt8) (hL : L.length ≤ 1000000000) (hf : 0 ≤ fault L) : ∀ (m : Nat) (l pre : List UInt8) (out : List Int) (v n : Int), l.length ≤ m → L = pre ++ l → Ok v n → Bytes out → out.length ≤ pre.length → RL ⟨L.toArray⟩ out v n pre.length ([], false) := by
  have hne : ∀ out : List Int, Bytes out → enc out ≠ L := fun out hb he => by
    have := (enc_good _ out (Nat.le_refl _) hb).1
    rw [he] at this
    omega
  intro m
  induction m with
  | zero =>
    intro l pre out v n hm hp hok hb ho
    obtain rfl : l = [] := List.eq_nil_of_length_eq_zero (by omega)
    have hlen : L.length = pre.length := by rw [hp]; simp
    have := stop L out v n pre.length (Or.inl (by omega)) hb (by omega)
    rw [if_neg (hne out hb)] at this
    exact this
  | succ m ih =>
    intro l pre out v n hm hp hok hb ho
    have hlen : L.length = pre.length + l.length := by rw [hp]; simp
    match l, hm, hp, hlen with
    | [], hm, hp, hlen => exact ih [] pre out v n (by simp) hp hok hb ho
    | c :: l, hm, hp, hlen =>
      simp only [List.length_cons] at hm hlen
      have hc : L.getD pre.length 0 = c := by rw [hp]; exact getD_pre pre (c :: l) 0
      by_cases h61 : c = 61
      · have := stop L out v n pre.length (Or.inr (by rw [hc, h61])) hb (by omega)
        rw [if_neg (hne out hb)] at this
        exact this
      · by_cases hV : V c < 0
        · exact letter_bad L out v n pre.length c (by omega) hc h61 hV
        · obtain ⟨out', v', n', hok', hb', ho', hstep⟩ := push ⟨L.toArray⟩ out v n pre.length (V c) hok (by omega) (V_facts c).2.1 hb (by omega) (by omega)
          have := ih l (pre ++ [c]) out' v' n' (by omega) (by rw [hp]; simp) hok' hb' (by simp; omega)
          rw [List.length_append, List.length_singleton] at this
          exact letter_step L out v n pre.length c _ (by omega) hc h61 (by omega) (hstep _ this)

theorem read_good (L : List UInt8) (hL : L.length ≤ 1000000000) (hf : fault L < 0) : ∀ (m : Nat) (l pre : List UInt8) (out : List Int), l.length ≤ m → L = pre ++ l → fault l < 0 → dec L = out ++ dec l → out.length ≤ pre.length → RL ⟨L.toArray⟩ out 0 0 pre.length (dec L, true) := by
  have hg := dec_good _ L (Nat.le_refl _) hf
  have hend : ∀ (out : List Int) (v n : Int) (i : Nat), (L.length ≤ i ∨ L.getD i 0 = 61) → dec L = out → RL ⟨L.toArray⟩ out v n i (dec L, true) := fun out v n i hi he => by
    have := stop L out v n i hi (by rw [← he]; exact hg.2.1) (by rw [← he]; have := hg.2.2; omega)
    rw [← he, if_pos hg.1] at this
    rw [← he]
    exact this
  intro m
  induction m with
  | zero =>
    intro l pre out hm hp hfl hd ho
    obtain rfl : l = [] := List.eq_nil_of_length_eq_zero (by omega)
    have hlen : L.length = pre.length := by rw [hp]; simp
    exact hend out 0 0 _ (Or.inl (by omega)) (by rw [hd]; simp [dec])
  | succ m ih =>
    intro l pre out hm hp hfl hd ho
    have hlen : L.length = pre.length + l.length := by rw [hp]; simp
    by_cases h0 : l = []
    · exact ih l pre out (by rw [h0]; simp) hp hfl hd ho
    · obtain ⟨a, b, c, d, r, rfl, he, hdr, hr⟩ := good_cases l hfl h0
      obtain ⟨ha, hb, hcd⟩ := e4_none a b c d he
      have fa := V_facts a
      have fb := V_facts b
      have fc := V_facts c
      have fd := V_facts d
      have na : a ≠ 61 := fun h => by have := fa.2.2.2 h; omega
      have nb : b ≠ 61 := fun h => by have := fb.2.2.2 h; omega
      simp only [List.length_cons] at hm hlen
      have g0 : L.getD pre.length 0 = a := by rw [hp]; exact getD_pre pre _ 0
      have g1 : L.getD (pre.length + 1) 0 = b := by rw [hp]; exact getD_pre pre _ 1
      have g2 : L.getD (pre.length + 1 + 1) 0 = c := by rw [hp]; exact getD_pre pre _ 2
      have g3 : L.getD (pre.length + 1 + 1 + 1) 0 = d := by rw [hp]; exact getD_pre pre _ 3
      apply letter_step L out 0 0 _ a _ (by omega) g0 na ha
      apply push0 _ _ _ _ _ ha fa.2.1 (by omega) (by omega)
      apply letter_step L out _ 6 _ b _ (by omega) g1 nb hb
      apply push6 _ _ _ _ _ _ ha fa.2.1 hb fb.2.1 (by omega) (by omega)
      rcases hcd with ⟨c61, d61, hmm⟩ | ⟨c61, hc, d61, hmm⟩ | ⟨c61, hc, d61, hd0⟩
      · have hr0 := hdr d61
        subst hr0
        apply hend _ _ _ _ (Or.inr (by rw [g2, c61]))
        rw [hd, dec, if_pos c61]
      · have hr0 := hdr d61
        subst hr0
        apply letter_step L _ _ 4 _ c _ (by omega) g2 c61 hc
        apply push4 _ _ _ _ _ _ (by omega) (by omega) hc fc.2.1 (by simp; omega) (by omega)
        apply hend _ _ _ _ (Or.inr (by rw [g3, d61]))
        rw [hd, dec, if_neg c61, if_pos d61]
        simp
      · apply letter_step L _ _ 4 _ c _ (by omega) g2 c61 hc
        apply push4 _ _ _ _ _ _ (by omega) (by omega) hc fc.2.1 (by simp; omega) (by omega)
        apply letter_step L _ _ 2 _ d _ (by omega) g3 d61 hd0
        apply push2 _ _ _ _ _ _ (by omega) (by omega) hd0 fd.2.1 (by simp; omega) (by omega)
        have := ih r (pre ++ [a, b, c, d]) (out ++ [V a * 4 + V b / 16, V b % 16 * 16 + V c / 4, V c % 4 * 64 + V d]) (by omega) (by rw [hp]; simp) hr (by rw [hd, dec, if_neg c61, if_neg d61]; simp) (by simp; omega)
        simpa using this

/-- what the document reads -/
theorem ref_read (L : List UInt8) (hL : L.length ≤ 1000000000) : ∃ k, longlineref14_Read.f k ⟨L.toArray⟩ = some (if fault L < 0 then (dec L, true) else ([], false)) := by
  by_cases hf : fault L < 0
  · rw [if_pos hf]
    exact read_good L hL hf L.length L [] [] (Nat.le_refl _) rfl hf rfl (by simp)
  · rw [if_neg hf]
    exact read_bad L hL (by omega) L.length L [] [] 0 0 (Nat.le_refl _) rfl (Or.inl ⟨rfl, rfl⟩) (fun x hx => by simp at hx) (by simp)
end Go.Proofs.Ytdnkclccjgcelaa.BaseD
