/- What the document's letters are: the enc of the walk. -/
import Derived.Test.YtdnkclccjgcelaaQBOx3
import Derived.KernelRfl
namespace Go.Proofs.Ytdnkclccjgcelaa.BaseW
open Go.RowKit Go.Proofs.Ytdnkclccjgcelaa.QBO Go.Proofs.YtdnkclccjgcelaaW.PrintWords Go.Proofs.YtdnkclccjgcelaaW.PrintLast
open Go.Proofs.YtdnkclccjgcelaaBW (enc enc4 lett LET)

theorem w64 {n : Int} (h0 : -9223372036854775808 ≤ n) (h1 : n < 9223372036854775808) : wrap64 n = n := by unfold wrap64; omega

theorem ba_append (L M : List UInt8) : (⟨L.toArray⟩ : ByteArray) ++ (⟨M.toArray⟩ : ByteArray) = ⟨(L ++ M).toArray⟩ := by
  apply ByteArray.ext
  simp [ByteArray.data_append]
theorem ba_size (L : List UInt8) : (⟨L.toArray⟩ : ByteArray).size = L.length := by
  simp [ByteArray.size]
theorem ba_toList (L : List UInt8) : (⟨L.toArray⟩ : ByteArray).toList = L := by
  simp
theorem ba_eta (b : ByteArray) : (⟨b.data.toList.toArray⟩ : ByteArray) = b := by
  apply ByteArray.ext; simp

theorem str1 (x : Int) : strOfNums [x] = ⟨[x.toNat.toUInt8].toArray⟩ := by kernel_rfl
theorem letter_f (v : Int) (h0 : 0 ≤ v) (h1 : v < 64) : longlineref14_letter.f v = some (bt LET v) := by
  unfold longlineref14_letter.f
  rw [if_pos h0, if_pos h1]
  rfl
theorem lett_str (v : Int) : strOfNums [bt LET v] = ⟨[lett v].toArray⟩ := by
  rw [str1]; rfl

/-- the bit at a place -/
def bit (x : List Int) (i : Nat) : Int := if i < 8 * x.length then (x.getD (i / 8) 0 / 2 ^ (7 - i % 8)) % 2 else 0
def six (x : List Int) (i : Nat) : Int := 32 * bit x i + 16 * bit x (i + 1) + 8 * bit x (i + 2) + 4 * bit x (i + 3) + 2 * bit x (i + 4) + bit x (i + 5)
theorem bit_range (x : List Int) (i : Nat) : 0 ≤ bit x i ∧ bit x i ≤ 1 := by
  unfold bit
  split <;> omega

def W0 (x : List Int) (out : List UInt8) (v n : Int) (i : Nat) (r : ByteArray) : Prop := ∃ k, longlineref14_Write.l0 k x ⟨out.toArray⟩ v n i = some r

theorem l1_loop (x : List Int) (out : ByteArray) (v n i : Int) (r : ByteArray) (d : Nat) : ∀ (m : Nat) (c : Int), m + d = 7 → 0 ≤ c → c < 256 →
    (∃ k, longlineref14_Write.l1 k x out v n i (c / 2 ^ d) 7 = some r) → ∃ k, longlineref14_Write.l1 k x out v n i c m = some r := by
  induction d with
  | zero =>
    intro m c hm h0 h1 h
    obtain rfl : m = 7 := by omega
    simpa using h
  | succ d ih =>
    intro m c hm h0 h1 h
    have h2 := ih (m + 1) (c / 2) (by omega) (by omega) (by omega) (by
      rw [Int.ediv_ediv_of_nonneg (by omega), show (2 : Int) * 2 ^ d = 2 ^ (d + 1) by rw [Int.pow_succ, Int.mul_comm]]
      exact h)
    obtain ⟨k, hk⟩ := h2
    refine ⟨k + 1, ?_⟩
    simp only [longlineref14_Write.l1]
    rw [if_pos (by omega), Int.tdiv_eq_ediv_of_nonneg h0, w64 (by omega) (by omega), w64 (by omega) (by omega)]
    exact hk

/-- the end of a round: what is done with the bit -/
theorem after_bit (x : List Int) (out : List UInt8) (v n : Int) (i : Nat) (b : Int) (r : ByteArray) (hb : 0 ≤ b ∧ b ≤ 1) (hv : 0 ≤ v) (hv2 : v < 32) (hn : 0 ≤ n) (hn2 : n ≤ 5) (hi : i < 9000000000000000000)
    (ho : out.length < 9000000000000000000) (h : if n = 5 then W0 x (out ++ [lett (2 * v + b)]) 0 0 (i + 1) r else W0 x out (2 * v + b) (n + 1) (i + 1) r) :
    ∃ k, (if (wrap64 (n + 1)) = 6 then ((longlineref14_letter.f (wrap64 ((wrap64 (2 * v)) + b))).bind fun t114 => ((some (([t114] : List Int) : List Int)).bind fun y115 => (if (⟨out.toArray⟩ : ByteArray).size + (strOfNums y115).size ≤ 9223372036854775807 then (longlineref14_Write.l0 k x ((⟨out.toArray⟩ : ByteArray) ++ (strOfNums y115)) 0 0 (wrap64 ((i : Int) + 1))) else (none)))) else (longlineref14_Write.l0 k x (⟨out.toArray⟩ : ByteArray) (wrap64 ((wrap64 (2 * v)) + b)) (wrap64 (n + 1)) (wrap64 ((i : Int) + 1)))) = some r := by
  by_cases h5 : n = 5
  · rw [if_pos h5] at h
    obtain ⟨k, hk⟩ := h
    refine ⟨k, ?_⟩
    subst h5
    rw [if_pos (by rw [w64 (by decide) (by decide)]; rfl), w64 (n := 2 * v) (by omega) (by omega), w64 (by omega) (by omega), letter_f _ (by omega) (by omega), Option.bind_some, Option.bind_some, lett_str, ba_size, ba_size, if_pos (by simp; omega), ba_append, w64 (by omega) (by omega)]
    exact hk
  · rw [if_neg h5] at h
    obtain ⟨k, hk⟩ := h
    refine ⟨k, ?_⟩
    rw [w64 (n := n + 1) (by omega) (by omega), if_neg (by omega), w64 (n := 2 * v) (by omega) (by omega), w64 (by omega) (by omega), w64 (by omega) (by omega)]
    exact hk
theorem step1 (x : List Int) (out : List UInt8) (v n : Int) (i : Nat) (r : ByteArray) (hx : ∀ y ∈ x, 0 ≤ y ∧ y < 256) (hl : x.length ≤ 1000000000000) (hgo : i < 8 * x.length ∨ 0 < n) (hv : 0 ≤ v) (hv2 : v < 32) (hn : 0 ≤ n) (hn2 : n ≤ 5) (hi : i < 9000000000000000000)
    (ho : out.length < 9000000000000000000) (h : if n = 5 then W0 x (out ++ [lett (2 * v + bit x i)]) 0 0 (i + 1) r else W0 x out (2 * v + bit x i) (n + 1) (i + 1) r) : W0 x out v n i r := by
  have hb := after_bit x out v n i (bit x i) r (bit_range x i) hv hv2 hn hn2 hi ho h
  by_cases hlt : i < 8 * x.length
  · -- a bit of a byte
    have hc := Go.Proofs.YtdnkclccjgcelaaBW.getD_byte x hx (i / 8)
    obtain ⟨c, hc0⟩ : ∃ c, c = x.getD (i / 8) 0 := ⟨_, rfl⟩
    rw [← hc0] at hc
    have hbit : bit x i = (c / 2 ^ (7 - i % 8)) % 2 := by unfold bit; rw [if_pos hlt, hc0]
    have h1 : ∃ k, longlineref14_Write.l1 k x ⟨out.toArray⟩ v n i c (i % 8 : Nat) = some r := by
      apply l1_loop x _ v n i r (7 - i % 8) (i % 8) c (by omega) hc.1 hc.2
      obtain ⟨k, hk⟩ := hb
      refine ⟨k + 1, ?_⟩
      simp only [longlineref14_Write.l1]
      rw [if_neg (by decide)]
      have hcn : 0 ≤ c / 2 ^ (7 - i % 8) := Int.ediv_nonneg hc.1 (by exact Int.le_of_lt (Int.pow_pos (by decide)))
      rw [Int.tmod_eq_emod_of_nonneg hcn, ← hbit]
      exact hk
    obtain ⟨k, hk⟩ := h1
    refine ⟨k + 2, ?_⟩
    have e8 : wrap64 (8 * (x.length : Int)) = 8 * (x.length : Int) := w64 (by omega) (by omega)
    have ed : wrap64 (Int.tdiv (i : Int) 8) = ((i / 8 : Nat) : Int) := by rw [Int.tdiv_eq_ediv_of_nonneg (by omega), w64 (by omega) (by omega)]; omega
    have er : wrap64 (rd x ((i / 8 : Nat) : Int)) = c := by unfold rd; rw [Int.toNat_natCast, ← hc0, w64 (by omega) (by omega)]
    have em : Int.tmod (i : Int) 8 = ((i % 8 : Nat) : Int) := by rw [Int.tmod_eq_emod_of_nonneg (by omega)]; omega
    simp only [longlineref14_Write.l0, longlineref14_Write.j1]
    rw [e8, ed, er, em, if_pos (by omega), if_pos trivial, if_pos (by omega), if_pos (by omega), if_pos (by omega)]
    exact hk
  · have hn0 : 0 < n := by omega
    have hbit : bit x i = 0 := by unfold bit; rw [if_neg hlt]
    rw [hbit] at hb
    obtain ⟨k, hk⟩ := hb
    refine ⟨k + 2, ?_⟩
    have e8 : wrap64 (8 * (x.length : Int)) = 8 * (x.length : Int) := w64 (by omega) (by omega)
    simp only [longlineref14_Write.l0, longlineref14_Write.j1]
    rw [e8, if_neg (by omega), decide_eq_true (show n > 0 by omega), if_pos rfl, if_neg (by omega)]
    simp only [Int.add_zero] at hk
    exact hk

theorem group (x : List Int) (out : List UInt8) (i : Nat) (r : ByteArray) (hx : ∀ y ∈ x, 0 ≤ y ∧ y < 256) (hl : x.length ≤ 1000000000000) (hlt : i < 8 * x.length)
    (ho : out.length < 9000000000000000000) (h : W0 x (out ++ [lett (six x i)]) 0 0 (i + 6) r) : W0 x out 0 0 i r := by
  have r0 := bit_range x i
  have r1 := bit_range x (i + 1)
  have r2 := bit_range x (i + 2)
  have r3 := bit_range x (i + 3)
  have r4 := bit_range x (i + 4)
  have r5 := bit_range x (i + 5)
  apply step1 x out 0 0 i r hx hl (Or.inl hlt) (by omega) (by omega) (by omega) (by omega) (by omega) ho
  rw [if_neg (by decide)]
  apply step1 x out _ _ (i + 1) r hx hl (Or.inr (by omega)) (by omega) (by omega) (by omega) (by omega) (by omega) ho
  rw [if_neg (by decide)]
  apply step1 x out _ _ (i + 2) r hx hl (Or.inr (by omega)) (by omega) (by omega) (by omega) (by omega) (by omega) ho
  rw [if_neg (by decide)]
  apply step1 x out _ _ (i + 3) r hx hl (Or.inr (by omega)) (by omega) (by omega) (by omega) (by omega) (by omega) ho
  rw [if_neg (by decide)]
  apply step1 x out _ _ (i + 4) r hx hl (Or.inr (by omega)) (by omega) (by omega) (by omega) (by omega) (by omega) ho
  rw [if_neg (by decide)]
  apply step1 x out _ _ (i + 5) r hx hl (Or.inr (by omega)) (by omega) (by omega) (by omega) (by omega) (by omega) ho
  rw [if_pos (by decide)]
  have e : 2 * (2 * (2 * (2 * (2 * (2 * 0 + bit x i) + bit x (i + 1)) + bit x (i + 2)) + bit x (i + 3)) + bit x (i + 4)) + bit x (i + 5) = six x i := by unfold six; omega
  rw [e]
  exact h

theorem l2_pad (n : Nat) : ∀ (out : List UInt8), (out.length + n) % 4 = 0 → n < 4 → out.length + n < 9000000000000000000 → ∃ k, longlineref14_Write.l2 k ⟨out.toArray⟩ = some ⟨(out ++ List.replicate n 61).toArray⟩ := by
  induction n with
  | zero =>
    intro out h0 _ _
    refine ⟨1, ?_⟩
    simp only [longlineref14_Write.l2]
    rw [ba_size, if_pos (by omega)]
    simp
  | succ n ih =>
    intro out h0 h4 hs
    obtain ⟨k, hk⟩ := ih (out ++ [61]) (by rw [List.length_append, List.length_singleton]; omega) (by omega) (by rw [List.length_append, List.length_singleton]; omega)
    refine ⟨k + 1, ?_⟩
    simp only [longlineref14_Write.l2]
    have e : (⟨out.toArray⟩ : ByteArray) ++ (⟨#[61]⟩ : ByteArray) = ⟨(out ++ [61]).toArray⟩ := ba_append out [61]
    rw [ba_size, if_neg (by omega), if_pos (by omega), e, hk]
    simp [List.replicate_succ]

theorem done (x : List Int) (out : List UInt8) (i n : Nat) (hl : x.length ≤ 1000000000000) (hi : 8 * x.length ≤ i) (_hi2 : i < 9000000000000000000) (h0 : (out.length + n) % 4 = 0) (h4 : n < 4) (ho : out.length + n < 9000000000000000000) :
    W0 x out 0 0 i ⟨(out ++ List.replicate n 61).toArray⟩ := by
  obtain ⟨k, hk⟩ := l2_pad n out h0 h4 ho
  refine ⟨k + 2, ?_⟩
  have e8 : wrap64 (8 * (x.length : Int)) = 8 * (x.length : Int) := w64 (by omega) (by omega)
  simp only [longlineref14_Write.l0, longlineref14_Write.j1]
  rw [e8, if_neg (by omega), if_neg (by decide)]
  exact hk

theorem bit_pre (pre l : List Int) (t : Nat) : bit (pre ++ l) (8 * pre.length + t) = bit l t := by
  unfold bit
  rw [List.length_append]
  by_cases h : t < 8 * l.length
  · rw [if_pos h, if_pos (by omega), show (8 * pre.length + t) / 8 = pre.length + t / 8 by omega, show (8 * pre.length + t) % 8 = t % 8 by omega]
    congr 2
    rw [List.getD_eq_getElem?_getD, List.getElem?_append_right (by omega), show pre.length + t / 8 - pre.length = t / 8 by omega, ← List.getD_eq_getElem?_getD]
  · rw [if_neg h, if_neg (by omega)]
theorem six_pre (pre l : List Int) (t j : Nat) (hj : j = 8 * pre.length + t) : six (pre ++ l) j = six l t := by
  subst hj
  unfold six
  simp only [Nat.add_assoc, bit_pre]
theorem bit_in (l : List Int) (t : Nat) (h : t < 8 * l.length) : bit l t = (l.getD (t / 8) 0 / 2 ^ (7 - t % 8)) % 2 := by unfold bit; rw [if_pos h]
theorem bit_out (l : List Int) (t : Nat) (h : 8 * l.length ≤ t) : bit l t = 0 := by unfold bit; rw [if_neg (by omega)]
theorem sixes1 (a : Int) (ha : 0 ≤ a ∧ a < 256) : six [a] 0 = a * 65536 / 262144 % 64 ∧ six [a] 6 = a * 65536 / 4096 % 64 := by
  constructor <;> (simp [six, bit]; omega)
theorem sixes2 (a b : Int) (ha : 0 ≤ a ∧ a < 256) (hb : 0 ≤ b ∧ b < 256) : six [a, b] 0 = (a * 65536 + b * 256) / 262144 % 64 ∧ six [a, b] 6 = (a * 65536 + b * 256) / 4096 % 64 ∧ six [a, b] 12 = (a * 65536 + b * 256) / 64 % 64 := by
  refine ⟨?_, ?_, ?_⟩ <;> (simp [six, bit]; omega)
theorem bit3 (a b c : Int) (l : List Int) (t : Nat) (ht : t < 24) : bit (a :: b :: c :: l) t = bit [a, b, c] t := by
  rw [bit_in _ t (by simp; omega), bit_in _ t (by simp; omega)]
  have : t / 8 = 0 ∨ t / 8 = 1 ∨ t / 8 = 2 := by omega
  rcases this with h | h | h <;> rw [h] <;> rfl
theorem six3 (a b c : Int) (l : List Int) (t : Nat) (ht : t ≤ 18) : six (a :: b :: c :: l) t = six [a, b, c] t := by
  unfold six
  rw [bit3 a b c l t (by omega), bit3 a b c l (t + 1) (by omega), bit3 a b c l (t + 2) (by omega), bit3 a b c l (t + 3) (by omega), bit3 a b c l (t + 4) (by omega), bit3 a b c l (t + 5) (by omega)]
theorem sixes3 (a b c : Int) (ha : 0 ≤ a ∧ a < 256) (hb : 0 ≤ b ∧ b < 256) (hc : 0 ≤ c ∧ c < 256) : six [a, b, c] 0 = (a * 65536 + b * 256 + c) / 262144 % 64 ∧ six [a, b, c] 6 = (a * 65536 + b * 256 + c) / 4096 % 64 ∧ six [a, b, c] 12 = (a * 65536 + b * 256 + c) / 64 % 64 ∧ six [a, b, c] 18 = (a * 65536 + b * 256 + c) % 64 := by
  refine ⟨?_, ?_, ?_, ?_⟩ <;> (simp [six, bit]; omega)

theorem main (x : List Int) (hx : ∀ y ∈ x, 0 ≤ y ∧ y < 256) (hl : x.length ≤ 1000000000000) : ∀ (n : Nat) (l pre : List Int) (out : List UInt8), l.length ≤ n → x = pre ++ l → out.length % 4 = 0 → out.length ≤ 4 * pre.length →
    W0 x out 0 0 (8 * pre.length) ⟨(out ++ enc l).toArray⟩ := by
  intro n
  induction n with
  | zero =>
    intro l pre out hn hp h4 ho
    obtain rfl : l = [] := List.eq_nil_of_length_eq_zero (by omega)
    have := done x out (8 * pre.length) 0 hl (by rw [hp]; simp) (by rw [hp] at hl; simp at hl; omega) (by omega) (by omega) (by rw [hp] at hl; simp at hl; omega)
    simpa [enc] using this
  | succ n ih =>
    intro l pre out hn hp h4 ho
    have hlen : pre.length + l.length ≤ 1000000000000 := by rw [hp] at hl; simpa using hl
    have hxl : x.length = pre.length + l.length := by rw [hp]; simp
    match l, hn, hp, hlen, hxl with
    | [], hn, hp, hlen, hxl => exact ih [] pre out (by simp) hp h4 ho
    | [a], hn, hp, hlen, hxl =>
      have ha := hx a (by rw [hp]; simp)
      simp only [List.length_cons, List.length_nil] at hlen hxl
      apply group x out _ _ hx hl (by omega) (by omega)
      apply group x _ _ _ hx hl (by omega) (by simp; omega)
      have := done x (out ++ [lett (six x (8 * pre.length))] ++ [lett (six x (8 * pre.length + 6))]) (8 * pre.length + 6 + 6) 2 hl (by omega) (by omega) (by simp; omega) (by omega) (by simp; omega)
      have e1 : six x (8 * pre.length) = six [a] 0 := by rw [hp]; exact six_pre pre [a] 0 _ (by omega)
      have e2 : six x (8 * pre.length + 6) = six [a] 6 := by rw [hp]; exact six_pre pre [a] 6 _ (by omega)
      obtain ⟨s1, s2⟩ := sixes1 a ha
      rw [s1] at e1
      rw [s2] at e2
      rw [e1, e2] at this
      rw [e1, e2]
      simpa [enc, enc4] using this
    | [a, b], hn, hp, hlen, hxl =>
      have ha := hx a (by rw [hp]; simp)
      have hb := hx b (by rw [hp]; simp)
      simp only [List.length_cons, List.length_nil] at hlen hxl
      apply group x out _ _ hx hl (by omega) (by omega)
      apply group x _ _ _ hx hl (by omega) (by simp; omega)
      apply group x _ _ _ hx hl (by omega) (by simp; omega)
      have := done x (out ++ [lett (six x (8 * pre.length))] ++ [lett (six x (8 * pre.length + 6))] ++ [lett (six x (8 * pre.length + 6 + 6))]) (8 * pre.length + 6 + 6 + 6) 1 hl (by omega) (by omega) (by simp; omega) (by omega) (by simp; omega)
      have e1 : six x (8 * pre.length) = six [a, b] 0 := by rw [hp]; exact six_pre pre [a, b] 0 _ (by omega)
      have e2 : six x (8 * pre.length + 6) = six [a, b] 6 := by rw [hp]; exact six_pre pre [a, b] 6 _ (by omega)
      have e3 : six x (8 * pre.length + 6 + 6) = six [a, b] 12 := by rw [hp]; exact six_pre pre [a, b] 12 _ (by omega)
      obtain ⟨s1, s2, s3⟩ := sixes2 a b ha hb
      rw [s1] at e1
      rw [s2] at e2
      rw [s3] at e3
      rw [e1, e2, e3] at this
      rw [e1, e2, e3]
      simpa [enc, enc4] using this
    | a :: b :: c :: l, hn, hp, hlen, hxl =>
      have ha := hx a (by rw [hp]; simp)
      have hb := hx b (by rw [hp]; simp)
      have hc := hx c (by rw [hp]; simp)
      simp only [List.length_cons] at hlen hxl hn
      apply group x out _ _ hx hl (by omega) (by omega)
      apply group x _ _ _ hx hl (by omega) (by simp; omega)
      apply group x _ _ _ hx hl (by omega) (by simp; omega)
      apply group x _ _ _ hx hl (by omega) (by simp; omega)
      have e1 : six x (8 * pre.length) = six (a :: b :: c :: l) 0 := by rw [hp]; exact six_pre pre (a :: b :: c :: l) 0 _ (by omega)
      have e2 : six x (8 * pre.length + 6) = six (a :: b :: c :: l) 6 := by rw [hp]; exact six_pre pre (a :: b :: c :: l) 6 _ (by omega)
      have e3 : six x (8 * pre.length + 6 + 6) = six (a :: b :: c :: l) 12 := by rw [hp]; exact six_pre pre (a :: b :: c :: l) 12 _ (by omega)
      have e4 : six x (8 * pre.length + 6 + 6 + 6) = six (a :: b :: c :: l) 18 := by rw [hp]; exact six_pre pre (a :: b :: c :: l) 18 _ (by omega)
      obtain ⟨s1, s2, s3, s4⟩ := sixes3 a b c ha hb hc
      rw [six3 _ _ _ _ _ (by omega), s1] at e1
      rw [six3 _ _ _ _ _ (by omega), s2] at e2
      rw [six3 _ _ _ _ _ (by omega), s3] at e3
      rw [six3 _ _ _ _ _ (by omega), s4] at e4
      rw [e1, e2, e3, e4]
      have h := ih l (pre ++ [a, b, c]) (out ++ enc4 (a * 65536 + b * 256 + c) 3) (by omega) (by rw [hp]; simp) (by simp [enc4]; omega) (by simp [enc4]; omega)
      rw [show 8 * (pre ++ [a, b, c]).length = 8 * pre.length + 6 + 6 + 6 + 6 by simp; omega] at h
      simpa [enc, enc4] using h

theorem enc_of_ref (x : List Int) (hx : ∀ y ∈ x, 0 ≤ y ∧ y < 256) (hl : x.length ≤ 1000000000000) : ∃ k, longlineref14_Write.f k x = some ⟨(enc x).toArray⟩ := by
  have := main x hx hl x.length x [] [] (Nat.le_refl _) rfl rfl (by simp)
  simpa [W0, longlineref14_Write.f] using this
theorem enc_length (n : Nat) : ∀ l : List Int, l.length ≤ n → (enc l).length = (l.length + 2) / 3 * 4 := by
  induction n with
  | zero =>
    intro l h
    obtain rfl : l = [] := List.eq_nil_of_length_eq_zero (by omega)
    rfl
  | succ n ih =>
    intro l h
    match l, h with
    | [], _ => rfl
    | [a], _ => simp [enc, enc4]
    | [a, b], _ => simp [enc, enc4]
    | a :: b :: c :: r, h =>
      simp only [List.length_cons] at h
      simp only [enc, List.length_append, List.length_cons]
      rw [ih r (by omega)]
      simp [enc4]
      omega
theorem size_f (n : Int) (h0 : 0 ≤ n) (h1 : n ≤ 65536) : base_Size.f n = some ((n + 2) / 3 * 4) := by
  unfold base_Size.f
  rw [if_neg (by omega), if_neg (by omega), w64 (n := n + 2) (by omega) (by omega), Int.tdiv_eq_ediv_of_nonneg (by omega), w64 (n := (n + 2) / 3) (by omega) (by omega), w64 (by omega) (by omega)]
theorem write_f (l : List Int) (hb : ∀ x ∈ l, 0 ≤ x ∧ x < 256) (hl : l.length ≤ 140737488351232) : base_Write.f l = some ⟨(enc l).toArray⟩ := by
  unfold base_Write.f
  rw [if_pos ⟨hb, hl⟩]

end Go.Proofs.Ytdnkclccjgcelaa.BaseW
