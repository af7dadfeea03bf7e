/- Beginnings of letters' texts; the document's Fault. -/
import Derived.Test.YtdnkclccjgcelaaBaseD
set_option linter.unusedSimpArgs false
set_option linter.unusedVariables false
namespace Go.Proofs.Ytdnkclccjgcelaa.BaseE
open Go.RowKit Go.Proofs.Ytdnkclccjgcelaa.QBO Go.Proofs.YtdnkclccjgcelaaW.PrintWords Go.Proofs.YtdnkclccjgcelaaW.PrintLast
open Go.Proofs.Ytdnkclccjgcelaa.BaseW Go.Proofs.Ytdnkclccjgcelaa.BaseR Go.Proofs.Ytdnkclccjgcelaa.BaseC Go.Proofs.Ytdnkclccjgcelaa.BaseD

def ok (p : List UInt8) : Prop := fault p < 0 ∨ fault p = p.length
instance (p : List UInt8) : Decidable (ok p) := by unfold ok; infer_instance
theorem fault4 (a b c d : UInt8) (r : List UInt8) : fault (a :: b :: c :: d :: r) = if 0 ≤ e4 a b c d then e4 a b c d else if d = 61 ∧ r ≠ [] then 4 else if 0 ≤ fault r then fault r + 4 else -1 := by rw [fault]
theorem ok_cons (a b c d : UInt8) (r : List UInt8) : ok (a :: b :: c :: d :: r) ↔ e4 a b c d < 0 ∧ (d = 61 → r = []) ∧ ok r := by
  have hr := e4_range a b c d
  unfold ok
  rw [fault4]
  simp only [List.length_cons]
  by_cases he : 0 ≤ e4 a b c d
  · rw [if_pos he]
    constructor
    · intro h; omega
    · intro h; omega
  · rw [if_neg he]
    by_cases hd : d = 61 ∧ r ≠ []
    · rw [if_pos hd]
      have : 0 < r.length := List.length_pos_iff.2 hd.2
      constructor
      · intro h; omega
      · intro h; exact absurd (h.2.1 hd.1) hd.2
    · rw [if_neg hd]
      have hd' : d = 61 → r = [] := fun h => by
        by_cases hr : r = []
        · exact hr
        · exact absurd ⟨h, hr⟩ hd
      by_cases hf : 0 ≤ fault r
      · rw [if_pos hf]
        constructor
        · intro h; exact ⟨by omega, hd', by omega⟩
        · intro h; have := h.2.2; omega
      · rw [if_neg hf]
        constructor
        · intro h; exact ⟨by omega, hd', Or.inl (by omega)⟩
        · intro h; exact Or.inl (by omega)
theorem valid_cons (a b c d : UInt8) (r : List UInt8) : fault (a :: b :: c :: d :: r) < 0 ↔ e4 a b c d < 0 ∧ (d = 61 → r = []) ∧ fault r < 0 := by
  have hr := e4_range a b c d
  rw [fault4]
  by_cases he : 0 ≤ e4 a b c d
  · rw [if_pos he]
    constructor
    · intro h; omega
    · intro h; omega
  · rw [if_neg he]
    by_cases hd : d = 61 ∧ r ≠ []
    · rw [if_pos hd]
      constructor
      · intro h; omega
      · intro h; exact absurd (h.2.1 hd.1) hd.2
    · rw [if_neg hd]
      have hd' : d = 61 → r = [] := fun h => by
        by_cases hr : r = []
        · exact hr
        · exact absurd ⟨h, hr⟩ hd
      by_cases hf : 0 ≤ fault r
      · rw [if_pos hf]
        constructor
        · intro h; omega
        · intro h; have := h.2.2; omega
      · rw [if_neg hf]
        exact ⟨fun _ => ⟨by omega, hd', by omega⟩, fun _ => by omega⟩
theorem ok_nil : ok [] := Or.inl (by simp [fault])
theorem ok1 (a : UInt8) : ok [a] ↔ 0 ≤ V a := by
  unfold ok
  rw [fault, e1]
  by_cases h : V a < 0
  · simp [h]
  · simp [h]; omega
theorem ok2 (a b : UInt8) : ok [a, b] ↔ 0 ≤ V a ∧ 0 ≤ V b := by
  unfold ok
  rw [fault, e2]
  by_cases h : V a < 0
  · simp [h]; omega
  · by_cases h2 : V b < 0
    · simp [h, h2]
    · simp [h, h2]; omega
theorem ok3 (a b c : UInt8) : ok [a, b, c] ↔ 0 ≤ V a ∧ 0 ≤ V b ∧ ¬ ((c = 61 ∧ V b % 16 ≠ 0) ∨ (c ≠ 61 ∧ V c < 0)) := by
  unfold ok
  rw [fault, e3]
  by_cases h : V a < 0
  · simp [h]; omega
  · by_cases h2 : V b < 0
    · simp [h, h2]; omega
    · by_cases h3 : (c = 61 ∧ V b % 16 ≠ 0) ∨ (c ≠ 61 ∧ V c < 0)
      · rw [if_neg h, if_neg h2, if_pos h3]
        simp [h3]
      · rw [if_neg h, if_neg h2, if_neg h3]
        simp only [h3, not_false_eq_true, and_true]
        constructor
        · intro _; omega
        · intro _; right; simp

def comp (n : Nat) : List (List UInt8) := if n = 0 then [[]] else if n = 1 then [[65, 65, 65], [81, 61, 61], [65, 65, 61]] else if n = 2 then [[65, 61], [65, 65], [61, 61]] else [[61], [65], [61]]
theorem V65 : V 65 = 0 := by decide +kernel
theorem V81 : V 81 = 16 := by decide +kernel
theorem V61 : V 61 = -1 := (V_facts 61).2.2.2 rfl

theorem goes_ok (n : Nat) : ∀ p : List UInt8, p.length ≤ n → ((∃ c ∈ comp (p.length % 4), fault (p ++ c) < 0) ↔ ok p) := by
  induction n with
  | zero =>
    intro p h
    obtain rfl : p = [] := List.eq_nil_of_length_eq_zero (by omega)
    simp [comp, ok, fault]
  | succ n ih =>
    intro p h
    match p, h with
    | [], h => simp [comp, ok, fault]
    | [x], h =>
      rw [ok1]
      simp only [comp, List.length_cons, List.length_nil, List.mem_cons, List.not_mem_nil, or_false, exists_eq_or_imp, exists_eq_left]
      simp only [show (0 + 1) % 4 = 1 from rfl, if_neg (show ¬ 1 = 0 by decide), if_pos trivial, List.mem_cons, List.not_mem_nil, or_false, exists_eq_or_imp, exists_eq_left, List.cons_append, List.nil_append, valid_cons, e4, V65, V81, V61]
      by_cases hx : V x < 0
      · simp [hx]
      · simp [hx, fault]; omega
    | [x, y], h =>
      rw [ok2]
      simp only [comp, show ([x, y] : List UInt8).length % 4 = 2 from rfl, if_neg (show ¬ 2 = 0 by decide), if_neg (show ¬ 2 = 1 by decide), if_pos trivial, List.mem_cons, List.not_mem_nil, or_false, exists_eq_or_imp, exists_eq_left, List.cons_append, List.nil_append, valid_cons, e4, V65, V81, V61]
      by_cases hx : V x < 0
      · simp [hx]; omega
      · by_cases hy : V y < 0
        · simp [hx, hy]
        · simp [hx, hy, fault]; omega
    | [x, y, z], h =>
      rw [ok3]
      simp only [comp, show ([x, y, z] : List UInt8).length % 4 = 3 from rfl, if_neg (show ¬ 3 = 0 by decide), if_neg (show ¬ 3 = 1 by decide), if_neg (show ¬ 3 = 2 by decide), List.mem_cons, List.not_mem_nil, or_false, exists_eq_or_imp, exists_eq_left, List.cons_append, List.nil_append, valid_cons, e4, V65, V81, V61]
      by_cases hx : V x < 0
      · simp [hx]; omega
      · by_cases hy : V y < 0
        · simp [hx, hy]; omega
        · by_cases hz : z = 61
          · by_cases hm : V y % 16 = 0
            · simp [hx, hy, hz, hm, fault]; omega
            · simp [hx, hy, hz, hm, fault]
          · by_cases hz0 : V z < 0
            · simp [hx, hy, hz, hz0, fault]
            · simp [hx, hy, hz, hz0, fault]; omega
    | a :: b :: c :: d :: r, h =>
      simp only [List.length_cons] at h
      rw [ok_cons, ← ih r (by omega)]
      have hm : (a :: b :: c :: d :: r).length % 4 = r.length % 4 := by simp only [List.length_cons]; omega
      rw [hm]
      simp only [List.cons_append, valid_cons]
      constructor
      · rintro ⟨x, hx, h1, h2, h3⟩
        exact ⟨h1, fun hd => (List.append_eq_nil_iff.1 (h2 hd)).1, x, hx, h3⟩
      · rintro ⟨h1, h2, x, hx, h3⟩
        refine ⟨x, hx, h1, fun hd => ?_, h3⟩
        have := h2 hd
        subst this
        simp [comp] at hx
        simp [hx]

theorem prefix_ok (n : Nat) : ∀ (s : List UInt8) (i : Nat), s.length ≤ n → (fault s < 0 ∨ (i : Int) ≤ fault s) → ok (s.take i) := by
  induction n with
  | zero =>
    intro s i h _
    obtain rfl : s = [] := List.eq_nil_of_length_eq_zero (by omega)
    simp [ok, fault]
  | succ n ih =>
    intro s i h hf
    match s, i, h, hf with
    | s, 0, h, hf => simpa using ok_nil
    | [], i, h, hf => simp [ok, fault]
    | [a], i + 1, h, hf =>
      simp only [List.take_succ_cons, List.take_nil]
      rw [ok1]
      rw [fault, e1] at hf
      by_cases ha : V a < 0
      · simp [ha] at hf; omega
      · omega
    | [a, b], 1, h, hf =>
      simp only [List.take_succ_cons, List.take_zero]
      rw [ok1]
      rw [fault, e2] at hf
      by_cases ha : V a < 0
      · simp [ha] at hf
      · omega
    | [a, b], i + 2, h, hf =>
      simp only [List.take_succ_cons, List.take_nil]
      rw [ok2]
      rw [fault, e2] at hf
      by_cases ha : V a < 0
      · simp [ha] at hf; omega
      · by_cases hb : V b < 0
        · simp [ha, hb] at hf; omega
        · omega
    | [a, b, c], 1, h, hf =>
      simp only [List.take_succ_cons, List.take_zero]
      rw [ok1]
      rw [fault, e3] at hf
      by_cases ha : V a < 0
      · simp [ha] at hf
      · omega
    | [a, b, c], 2, h, hf =>
      simp only [List.take_succ_cons, List.take_zero]
      rw [ok2]
      rw [fault, e3] at hf
      by_cases ha : V a < 0
      · simp [ha] at hf
      · by_cases hb : V b < 0
        · simp [ha, hb] at hf
        · omega
    | [a, b, c], i + 3, h, hf =>
      simp only [List.take_succ_cons, List.take_nil]
      rw [ok3]
      rw [fault, e3] at hf
      by_cases ha : V a < 0
      · simp [ha] at hf; omega
      · by_cases hb : V b < 0
        · simp [ha, hb] at hf; omega
        · by_cases hc : (c = 61 ∧ V b % 16 ≠ 0) ∨ (c ≠ 61 ∧ V c < 0)
          · rw [if_neg ha, if_neg hb, if_pos hc] at hf
            rw [if_pos (by decide)] at hf
            omega
          · exact ⟨by omega, by omega, hc⟩
    | a :: b :: c :: d :: r, 1, h, hf =>
      simp only [List.take_succ_cons, List.take_zero]
      rw [ok1]
      rw [fault4, e4] at hf
      by_cases ha : V a < 0
      · simp [ha] at hf
      · omega
    | a :: b :: c :: d :: r, 2, h, hf =>
      simp only [List.take_succ_cons, List.take_zero]
      rw [ok2]
      rw [fault4, e4] at hf
      by_cases ha : V a < 0
      · simp [ha] at hf
      · by_cases hb : V b < 0
        · simp [ha, hb] at hf
        · omega
    | a :: b :: c :: d :: r, 3, h, hf =>
      simp only [List.take_succ_cons, List.take_zero]
      rw [ok3]
      rw [fault4, e4] at hf
      by_cases ha : V a < 0
      · simp [ha] at hf
      · by_cases hb : V b < 0
        · simp [ha, hb] at hf
        · by_cases hc : (c = 61 ∧ V b % 16 ≠ 0) ∨ (c ≠ 61 ∧ V c < 0)
          · rw [if_neg ha, if_neg hb, if_pos hc] at hf
            rw [if_pos (by decide)] at hf
            omega
          · exact ⟨by omega, by omega, hc⟩
    | a :: b :: c :: d :: r, i + 4, h, hf =>
      simp only [List.length_cons] at h
      simp only [List.take_succ_cons]
      rw [ok_cons]
      have hr := e4_range a b c d
      rw [fault4] at hf
      by_cases he : 0 ≤ e4 a b c d
      · rw [if_pos he] at hf; omega
      · rw [if_neg he] at hf
        by_cases hd : d = 61 ∧ r ≠ []
        · rw [if_pos hd] at hf
          obtain rfl : i = 0 := by omega
          exact ⟨by omega, fun _ => by simp, by simpa using ok_nil⟩
        · rw [if_neg hd] at hf
          have hd' : d = 61 → r = [] := fun h => by
            by_cases hr : r = []
            · exact hr
            · exact absurd ⟨h, hr⟩ hd
          refine ⟨by omega, fun h => by rw [hd' h]; simp, ih r i (by omega) ?_⟩
          by_cases hfr : 0 ≤ fault r
          · rw [if_pos hfr] at hf; omega
          · exact Or.inl (by omega)

theorem bad_prefix (n : Nat) : ∀ (s : List UInt8), s.length ≤ n → 0 ≤ fault s → fault s < s.length → ¬ ok (s.take ((fault s).toNat + 1)) := by
  induction n with
  | zero =>
    intro s h h0 h1
    obtain rfl : s = [] := List.eq_nil_of_length_eq_zero (by omega)
    simp [fault] at h0
  | succ n ih =>
    intro s h h0 h1
    match s, h, h0, h1 with
    | [], h, h0, h1 => simp [fault] at h0
    | [a], h, h0, h1 =>
      have e : fault [a] = if 0 ≤ e1 a then e1 a else 1 := by rw [fault]
      by_cases ha : V a < 0
      · rw [e, e1, if_pos ha, if_pos (by decide)]
        simp only [Int.toNat_zero, List.take_succ_cons, List.take_zero]
        rw [ok1]; omega
      · rw [e, e1, if_neg ha, if_neg (by decide)] at h1
        simp at h1
    | [a, b], h, h0, h1 =>
      have e : fault [a, b] = if 0 ≤ e2 a b then e2 a b else 2 := by rw [fault]
      by_cases ha : V a < 0
      · rw [e, e2, if_pos ha, if_pos (by decide)]
        simp only [Int.toNat_zero, List.take_succ_cons, List.take_zero]
        rw [ok1]; omega
      · by_cases hb : V b < 0
        · rw [e, e2, if_neg ha, if_pos hb, if_pos (by decide)]
          simp only [Int.toNat_one, List.take_succ_cons, List.take_zero]
          rw [ok2]; omega
        · rw [e, e2, if_neg ha, if_neg hb, if_neg (by decide)] at h1
          simp at h1
    | [a, b, c], h, h0, h1 =>
      have e : fault [a, b, c] = if 0 ≤ e3 a b c then e3 a b c else 3 := by rw [fault]
      by_cases ha : V a < 0
      · rw [e, e3, if_pos ha, if_pos (by decide)]
        simp only [Int.toNat_zero, List.take_succ_cons, List.take_zero]
        rw [ok1]; omega
      · by_cases hb : V b < 0
        · rw [e, e3, if_neg ha, if_pos hb, if_pos (by decide)]
          simp only [Int.toNat_one, List.take_succ_cons, List.take_zero]
          rw [ok2]; omega
        · by_cases hc : (c = 61 ∧ V b % 16 ≠ 0) ∨ (c ≠ 61 ∧ V c < 0)
          · rw [e, e3, if_neg ha, if_neg hb, if_pos hc, if_pos (by decide)]
            simp only [show (2 : Int).toNat = 2 from rfl, List.take_succ_cons, List.take_zero]
            rw [ok3]
            exact fun h => h.2.2 hc
          · rw [e, e3, if_neg ha, if_neg hb, if_neg hc, if_neg (by decide)] at h1
            simp at h1
    | a :: b :: c :: d :: r, h, h0, h1 =>
      simp only [List.length_cons] at h h1
      have hr := e4_range a b c d
      have e := fault4 a b c d r
      by_cases he : 0 ≤ e4 a b c d
      · rw [e, if_pos he]
        by_cases ha : V a < 0
        · rw [e4, if_pos ha]
          simp only [Int.toNat_zero, List.take_succ_cons, List.take_zero]
          rw [ok1]; omega
        · by_cases hb : V b < 0
          · rw [e4, if_neg ha, if_pos hb]
            simp only [Int.toNat_one, List.take_succ_cons, List.take_zero]
            rw [ok2]; omega
          · by_cases hc : (c = 61 ∧ V b % 16 ≠ 0) ∨ (c ≠ 61 ∧ V c < 0)
            · rw [e4, if_neg ha, if_neg hb, if_pos hc]
              simp only [show (2 : Int).toNat = 2 from rfl, List.take_succ_cons, List.take_zero]
              rw [ok3]
              exact fun h => h.2.2 hc
            · have h3 : e4 a b c d = 3 := by
                rw [e4, if_neg ha, if_neg hb, if_neg hc] at he ⊢
                split
                · rfl
                · rename_i h4
                  rw [if_neg h4] at he
                  split
                  · rfl
                  · rename_i h5
                    rw [if_neg h5] at he
                    omega
              rw [h3]
              simp only [show (3 : Int).toNat = 3 from rfl, List.take_succ_cons, List.take_zero]
              rw [ok_cons]
              omega
      · rw [if_neg he] at e
        by_cases hd : d = 61 ∧ r ≠ []
        · rw [if_pos hd] at e
          rw [e]
          simp only [show (4 : Int).toNat = 4 from rfl, List.take_succ_cons]
          rw [ok_cons]
          intro hh
          have := hh.2.1 hd.1
          match r, hd.2, this with
          | [], hn, _ => exact hn rfl
          | x :: r', _, ht => simp at ht
        · rw [if_neg hd] at e
          by_cases hf : 0 ≤ fault r
          · rw [if_pos hf] at e
            rw [e] at h1 ⊢
            rw [show (fault r + 4).toNat + 1 = ((fault r).toNat + 1) + 4 by omega]
            simp only [List.take_succ_cons]
            rw [ok_cons]
            exact fun hh => ih r (by omega) hf (by omega) hh.2.2
          · rw [if_neg hf] at e
            omega

/-! ### the document's goes -/
def MORE : List ByteArray := [(⟨#[]⟩ : ByteArray), (⟨#[65, 65, 65]⟩ : ByteArray), (⟨#[65, 61]⟩ : ByteArray), (⟨#[61]⟩ : ByteArray)]
def TWO : List ByteArray := [(⟨#[65, 65]⟩ : ByteArray), (⟨#[61, 61]⟩ : ByteArray), (⟨#[65]⟩ : ByteArray), (⟨#[61]⟩ : ByteArray), (⟨#[81, 61, 61]⟩ : ByteArray), (⟨#[65, 65, 61]⟩ : ByteArray)]
def moreL : Nat → List UInt8
  | 0 => [] | 1 => [65, 65, 65] | 2 => [65, 61] | _ => [61]
def twoL : Nat → List UInt8
  | 0 => [65, 65] | 1 => [61, 61] | 2 => [65] | 3 => [61] | 4 => [81, 61, 61] | _ => [65, 65, 61]
theorem more_at (i : Nat) (h : i < 4) : rdOf ByteArray.empty MORE (i : Int) = ⟨(moreL i).toArray⟩ := by
  obtain rfl | rfl | rfl | rfl : i = 0 ∨ i = 1 ∨ i = 2 ∨ i = 3 := by omega
  all_goals rfl
theorem two_at (i : Nat) (h : i < 6) : rdOf ByteArray.empty TWO (i : Int) = ⟨(twoL i).toArray⟩ := by
  obtain rfl | rfl | rfl | rfl | rfl | rfl : i = 0 ∨ i = 1 ∨ i = 2 ∨ i = 3 ∨ i = 4 ∨ i = 5 := by omega
  all_goals rfl

theorem g_no (p : List UInt8) (n i k : Nat) (hi : i < 4) (hn : n < 4) (h : (moreL i).length + n ≠ 4) (h2 : ¬ (n = 0 ∧ i = 0)) (hl : (moreL i).length ≤ 3) :
    longlineref14_goes.l0 (k + 2) ⟨p.toArray⟩ n MORE i = longlineref14_goes.l0 k ⟨p.toArray⟩ n MORE ((i + 1 : Nat) : Int) := by
  have hj : longlineref14_goes.j1 (k + 1) ⟨p.toArray⟩ n MORE i false = longlineref14_goes.l0 k ⟨p.toArray⟩ n MORE ((i + 1 : Nat) : Int) := by
    simp only [longlineref14_goes.j1]
    rw [if_neg (by decide), w64 (by omega) (by omega)]
    rfl
  simp only [longlineref14_goes.l0]
  rw [if_pos (by omega), if_pos (by omega), if_pos (by simp [MORE]; omega), more_at i hi, ba_size, w64 (by omega) (by omega), if_neg (by omega)]
  by_cases h0 : n = 0
  · have : i ≠ 0 := fun hi0 => h2 ⟨h0, hi0⟩
    rw [if_pos (by omega), show ((i : Int) == 0) = false from beq_eq_false_iff_ne.2 (by omega)]
    exact hj
  · rw [if_neg (by omega)]
    exact hj
theorem g_yes (p : List UInt8) (n i k : Nat) (hi : i < 4) (hn : n < 4) (h : (moreL i).length + n = 4 ∨ (n = 0 ∧ i = 0)) (hl : (moreL i).length ≤ 3) (hp : p.length ≤ 1000000000) :
    longlineref14_goes.l0 (k + 2) ⟨p.toArray⟩ n MORE i = (longlineref14_Read.f k ⟨(p ++ moreL i).toArray⟩).bind fun b => if b.2 = true then some true else longlineref14_goes.l0 k ⟨p.toArray⟩ n MORE ((i + 1 : Nat) : Int) := by
  have hj : longlineref14_goes.j1 (k + 1) ⟨p.toArray⟩ n MORE i true = (longlineref14_Read.f k ⟨(p ++ moreL i).toArray⟩).bind fun b => if b.2 = true then some true else longlineref14_goes.l0 k ⟨p.toArray⟩ n MORE ((i + 1 : Nat) : Int) := by
    simp only [longlineref14_goes.j1]
    rw [if_pos trivial, if_pos (by omega), if_pos (by simp [MORE]; omega), more_at i hi, ba_size, ba_size, if_pos (by omega), ba_append, w64 (by omega) (by omega)]
    rfl
  simp only [longlineref14_goes.l0]
  rw [if_pos (by omega), if_pos (by omega), if_pos (by simp [MORE]; omega), more_at i hi, ba_size, w64 (by omega) (by omega)]
  by_cases h4 : (moreL i).length + n = 4
  · rw [if_pos (by omega)]
    exact hj
  · have h0 : n = 0 ∧ i = 0 := by omega
    rw [if_neg (by omega), if_pos (by omega), show ((i : Int) == 0) = true from beq_iff_eq.2 (by omega)]
    exact hj
theorem g_mid (p : List UInt8) (n k : Nat) : longlineref14_goes.l0 (k + 1) ⟨p.toArray⟩ n MORE ((4 : Nat) : Int) = longlineref14_goes.l1 k ⟨p.toArray⟩ n TWO ((0 : Nat) : Int) := by
  simp only [longlineref14_goes.l0]
  rw [if_neg (by decide)]
  rfl
theorem t_no (p : List UInt8) (n i k : Nat) (hi : i < 6) (hn : n < 4) (h : (twoL i).length + n ≠ 4) (hl : (twoL i).length ≤ 3) :
    longlineref14_goes.l1 (k + 1) ⟨p.toArray⟩ n TWO i = longlineref14_goes.l1 k ⟨p.toArray⟩ n TWO ((i + 1 : Nat) : Int) := by
  simp only [longlineref14_goes.l1]
  rw [if_pos (by omega), if_pos (by omega), if_pos (by simp [TWO]; omega), two_at i hi, ba_size, w64 (by omega) (by omega), if_neg (by omega), w64 (by omega) (by omega)]
  rfl
theorem t_yes (p : List UInt8) (n i k : Nat) (hi : i < 6) (hn : n < 4) (h : (twoL i).length + n = 4) (hl : (twoL i).length ≤ 3) (hp : p.length ≤ 1000000000) :
    longlineref14_goes.l1 (k + 1) ⟨p.toArray⟩ n TWO i = (longlineref14_Read.f k ⟨(p ++ twoL i).toArray⟩).bind fun b => if b.2 = true then some true else longlineref14_goes.l1 k ⟨p.toArray⟩ n TWO ((i + 1 : Nat) : Int) := by
  simp only [longlineref14_goes.l1]
  rw [if_pos (by omega), if_pos (by omega), if_pos (by simp [TWO]; omega), two_at i hi, ba_size, w64 (by omega) (by omega), if_pos (by omega), ba_size, if_pos (by omega), ba_append, w64 (by omega) (by omega)]
  rfl
theorem t_end (p : List UInt8) (n k : Nat) : longlineref14_goes.l1 (k + 1) ⟨p.toArray⟩ n TWO ((6 : Nat) : Int) = some false := by
  simp only [longlineref14_goes.l1]
  rw [if_neg (by decide)]

theorem reads_all (cs : List (List UInt8)) (h : ∀ c ∈ cs, c.length ≤ 1000000000) : ∃ K, ∀ k, K ≤ k → ∀ c ∈ cs, longlineref14_Read.f k ⟨c.toArray⟩ = some (if fault c < 0 then (dec c, true) else ([], false)) := by
  induction cs with
  | nil => exact ⟨0, fun k _ c hc => by simp at hc⟩
  | cons a cs ih =>
    obtain ⟨K, hK⟩ := ih (fun c hc => h c (by simp [hc]))
    obtain ⟨k1, h1⟩ := ref_read a (h a (by simp))
    refine ⟨max K k1, fun k hk c hc => ?_⟩
    rcases List.mem_cons.1 hc with rfl | hc
    · exact lift (fun k => longlineref14_Read.f k ⟨c.toArray⟩) (fun k => longlineref14_Read.mono _ k) h1 (by omega)
    · exact hK k (by omega) c hc

theorem bindR {x : Option (List Int × Bool)} {c : List UInt8} (h : x = some (if fault c < 0 then (dec c, true) else ([], false))) (y : Option Bool) : (x.bind fun b => if b.2 = true then some true else y) = if fault c < 0 then some true else y := by
  rw [h, Option.bind_some]
  by_cases hf : fault c < 0
  · rw [if_pos hf, if_pos hf, if_pos rfl]
  · rw [if_neg hf, if_neg hf, if_neg (by decide)]

theorem goes_f (p : List UInt8) (hp : p.length ≤ 100000000) : ∃ k, longlineref14_goes.f k ⟨p.toArray⟩ = some (decide (ok p)) := by
  by_cases h0 : p = []
  · subst h0
    refine ⟨0, ?_⟩
    unfold longlineref14_goes.f
    rw [if_pos (by simp), decide_eq_true ok_nil]
  · have hlen : ∀ c ∈ (comp (p.length % 4)).map (p ++ ·), c.length ≤ 1000000000 := by
      intro c hc
      obtain ⟨x, hx, rfl⟩ := List.mem_map.1 hc
      have : x.length ≤ 3 := by
        unfold comp at hx
        repeat' split at hx
        all_goals simp at hx
        all_goals first | (subst hx; simp; done) | (rcases hx with rfl | rfl | rfl <;> simp)
      rw [List.length_append]; omega
    obtain ⟨K, hK⟩ := reads_all _ hlen
    have hR : ∀ k x, K ≤ k → x ∈ comp (p.length % 4) → longlineref14_Read.f k ⟨(p ++ x).toArray⟩ = some (if fault (p ++ x) < 0 then (dec (p ++ x), true) else ([], false)) := fun k x hk hx => hK k hk _ (List.mem_map.2 ⟨x, hx, rfl⟩)
    have hg := goes_ok _ p (Nat.le_refl _)
    refine ⟨K + 20, ?_⟩
    unfold longlineref14_goes.f
    rw [if_neg (by simpa using h0), ba_size, show ((p.length : Int) % 4) = ((p.length % 4 : Nat) : Int) by omega]
    show longlineref14_goes.l0 (K + 20) ⟨p.toArray⟩ ((p.length % 4 : Nat) : Int) MORE ((0 : Nat) : Int) = _
    have hn : p.length % 4 = 0 ∨ p.length % 4 = 1 ∨ p.length % 4 = 2 ∨ p.length % 4 = 3 := by omega
    rcases hn with hn | hn | hn | hn
    · rw [hn] at hR hg ⊢
      rw [g_yes p 0 0 (K + 18) (by omega) (by omega) (Or.inr ⟨rfl, rfl⟩) (by decide) (by omega), show moreL 0 = [] from rfl, bindR (hR (K + 18) [] (by omega) (by simp [comp])), g_no p 0 1 (K + 16) (by omega) (by omega) (by decide) (by decide) (by decide), g_no p 0 2 (K + 14) (by omega) (by omega) (by decide) (by decide) (by decide), g_no p 0 3 (K + 12) (by omega) (by omega) (by decide) (by decide) (by decide), g_mid p 0 (K + 11),
        t_no p 0 0 (K + 10) (by omega) (by omega) (by decide) (by decide), t_no p 0 1 (K + 9) (by omega) (by omega) (by decide) (by decide), t_no p 0 2 (K + 8) (by omega) (by omega) (by decide) (by decide), t_no p 0 3 (K + 7) (by omega) (by omega) (by decide) (by decide), t_no p 0 4 (K + 6) (by omega) (by omega) (by decide) (by decide), t_no p 0 5 (K + 5) (by omega) (by omega) (by decide) (by decide), t_end p 0 (K + 4)]
      simp only [comp, if_pos trivial, List.mem_cons, List.not_mem_nil, or_false, exists_eq_left] at hg
      by_cases hv : fault (p ++ []) < 0
      · rw [if_pos hv, decide_eq_true (hg.1 hv)]
      · rw [if_neg hv, decide_eq_false (fun h => hv (hg.2 h))]
    · rw [hn] at hR hg ⊢
      rw [g_no p 1 0 (K + 18) (by omega) (by omega) (by decide) (by decide) (by decide), g_yes p 1 1 (K + 16) (by omega) (by omega) (Or.inl rfl) (by decide) (by omega), show moreL 1 = [65, 65, 65] from rfl, bindR (hR (K + 16) [65, 65, 65] (by omega) (by simp [comp])), g_no p 1 2 (K + 14) (by omega) (by omega) (by decide) (by decide) (by decide), g_no p 1 3 (K + 12) (by omega) (by omega) (by decide) (by decide) (by decide), g_mid p 1 (K + 11),
        t_no p 1 0 (K + 10) (by omega) (by omega) (by decide) (by decide), t_no p 1 1 (K + 9) (by omega) (by omega) (by decide) (by decide), t_no p 1 2 (K + 8) (by omega) (by omega) (by decide) (by decide), t_no p 1 3 (K + 7) (by omega) (by omega) (by decide) (by decide), t_yes p 1 4 (K + 6) (by omega) (by omega) rfl (by decide) (by omega), show twoL 4 = [81, 61, 61] from rfl, bindR (hR (K + 6) [81, 61, 61] (by omega) (by simp [comp])), t_yes p 1 5 (K + 5) (by omega) (by omega) rfl (by decide) (by omega), show twoL 5 = [65, 65, 61] from rfl, bindR (hR (K + 5) [65, 65, 61] (by omega) (by simp [comp])), t_end p 1 (K + 4)]
      simp only [comp, if_neg (show ¬ 1 = 0 by decide), if_pos trivial, List.mem_cons, List.not_mem_nil, or_false, exists_eq_or_imp, exists_eq_left] at hg
      by_cases hv : ok p
      · rw [decide_eq_true hv]
        rcases hg.2 hv with h | h | h
        · rw [if_pos h]
        · repeat' split
          all_goals first | rfl | contradiction
        · repeat' split
          all_goals first | rfl | contradiction
      · rw [decide_eq_false hv, if_neg (fun h => hv (hg.1 (Or.inl h))), if_neg (fun h => hv (hg.1 (Or.inr (Or.inl h)))), if_neg (fun h => hv (hg.1 (Or.inr (Or.inr h))))]
    · rw [hn] at hR hg ⊢
      rw [g_no p 2 0 (K + 18) (by omega) (by omega) (by decide) (by decide) (by decide), g_no p 2 1 (K + 16) (by omega) (by omega) (by decide) (by decide) (by decide), g_yes p 2 2 (K + 14) (by omega) (by omega) (Or.inl rfl) (by decide) (by omega), show moreL 2 = [65, 61] from rfl, bindR (hR (K + 14) [65, 61] (by omega) (by simp [comp])), g_no p 2 3 (K + 12) (by omega) (by omega) (by decide) (by decide) (by decide), g_mid p 2 (K + 11),
        t_yes p 2 0 (K + 10) (by omega) (by omega) rfl (by decide) (by omega), show twoL 0 = [65, 65] from rfl, bindR (hR (K + 10) [65, 65] (by omega) (by simp [comp])), t_yes p 2 1 (K + 9) (by omega) (by omega) rfl (by decide) (by omega), show twoL 1 = [61, 61] from rfl, bindR (hR (K + 9) [61, 61] (by omega) (by simp [comp])), t_no p 2 2 (K + 8) (by omega) (by omega) (by decide) (by decide), t_no p 2 3 (K + 7) (by omega) (by omega) (by decide) (by decide), t_no p 2 4 (K + 6) (by omega) (by omega) (by decide) (by decide), t_no p 2 5 (K + 5) (by omega) (by omega) (by decide) (by decide), t_end p 2 (K + 4)]
      simp only [comp, if_neg (show ¬ 2 = 0 by decide), if_neg (show ¬ 2 = 1 by decide), if_pos trivial, List.mem_cons, List.not_mem_nil, or_false, exists_eq_or_imp, exists_eq_left] at hg
      by_cases hv : ok p
      · rw [decide_eq_true hv]
        rcases hg.2 hv with h | h | h
        · rw [if_pos h]
        · repeat' split
          all_goals first | rfl | contradiction
        · repeat' split
          all_goals first | rfl | contradiction
      · rw [decide_eq_false hv, if_neg (fun h => hv (hg.1 (Or.inl h))), if_neg (fun h => hv (hg.1 (Or.inr (Or.inl h)))), if_neg (fun h => hv (hg.1 (Or.inr (Or.inr h))))]
    · rw [hn] at hR hg ⊢
      rw [g_no p 3 0 (K + 18) (by omega) (by omega) (by decide) (by decide) (by decide), g_no p 3 1 (K + 16) (by omega) (by omega) (by decide) (by decide) (by decide), g_no p 3 2 (K + 14) (by omega) (by omega) (by decide) (by decide) (by decide), g_yes p 3 3 (K + 12) (by omega) (by omega) (Or.inl rfl) (by decide) (by omega), show moreL 3 = [61] from rfl, bindR (hR (K + 12) [61] (by omega) (by simp [comp])), g_mid p 3 (K + 11),
        t_no p 3 0 (K + 10) (by omega) (by omega) (by decide) (by decide), t_no p 3 1 (K + 9) (by omega) (by omega) (by decide) (by decide), t_yes p 3 2 (K + 8) (by omega) (by omega) rfl (by decide) (by omega), show twoL 2 = [65] from rfl, bindR (hR (K + 8) [65] (by omega) (by simp [comp])), t_yes p 3 3 (K + 7) (by omega) (by omega) rfl (by decide) (by omega), show twoL 3 = [61] from rfl, bindR (hR (K + 7) [61] (by omega) (by simp [comp])), t_no p 3 4 (K + 6) (by omega) (by omega) (by decide) (by decide), t_no p 3 5 (K + 5) (by omega) (by omega) (by decide) (by decide), t_end p 3 (K + 4)]
      simp only [comp, if_neg (show ¬ 3 = 0 by decide), if_neg (show ¬ 3 = 1 by decide), if_neg (show ¬ 3 = 2 by decide), List.mem_cons, List.not_mem_nil, or_false, exists_eq_or_imp, exists_eq_left] at hg
      by_cases hv : ok p
      · rw [decide_eq_true hv]
        rcases hg.2 hv with h | h | h
        · rw [if_pos h]
        · repeat' split
          all_goals first | rfl | contradiction
        · repeat' split
          all_goals first | rfl | contradiction
      · rw [decide_eq_false hv, if_neg (fun h => hv (hg.1 (Or.inl h))), if_neg (fun h => hv (hg.1 (Or.inr (Or.inl h)))), if_neg (fun h => hv (hg.1 (Or.inr (Or.inr h))))]

/-! ### the document's Fault -/
theorem fault_le (n : Nat) : ∀ s : List UInt8, s.length ≤ n → fault s ≤ s.length := by
  induction n with
  | zero => intro s h; obtain rfl : s = [] := List.eq_nil_of_length_eq_zero (by omega); simp [fault]
  | succ n ih =>
    intro s h
    match s, h with
    | [], _ => simp [fault]
    | [a], _ => have := e1_range a; rw [fault]; split <;> simp <;> omega
    | [a, b], _ => have := e2_range a b; rw [fault]; split <;> simp <;> omega
    | [a, b, c], _ => have := e3_range a b c; rw [fault]; split <;> simp <;> omega
    | a :: b :: c :: d :: r, h =>
      have := e4_range a b c d
      simp only [List.length_cons] at h ⊢
      have := ih r (by omega)
      rw [fault4]
      repeat' split
      all_goals omega

theorem ref_fault_l (s : List UInt8) (hs : s.length ≤ 100000000) (h0 : 0 ≤ fault s) : ∀ (m i : Nat), i + m = (fault s).toNat + 1 → ∃ k, longlineref14_Fault.l0 k ⟨s.toArray⟩ i = some (fault s) := by
  have hle := fault_le _ s (Nat.le_refl _)
  have hx : ∀ i : Nat, (⟨s.toArray⟩ : ByteArray).extract 0 ((i : Int)).toNat = ⟨(s.take i).toArray⟩ := fun i => by
    have e := ext_pre [] s i
    rw [Int.toNat_natCast]
    simpa using e
  intro m
  induction m with
  | zero =>
    intro i hi
    by_cases hlt : fault s < s.length
    · obtain ⟨k, hk⟩ := goes_f (s.take i) (by rw [List.length_take]; omega)
      have hb := bad_prefix _ s (Nat.le_refl _) h0 hlt
      rw [show (fault s).toNat + 1 = i by omega] at hb
      refine ⟨k + 1, ?_⟩
      simp only [longlineref14_Fault.l0]
      rw [ba_size, if_pos (by omega), if_pos (by omega), hx, hk, Option.bind_some, decide_eq_false hb, if_neg (by decide), w64 (by omega) (by omega)]
      congr 1
      omega
    · refine ⟨1, ?_⟩
      simp only [longlineref14_Fault.l0]
      rw [ba_size, if_neg (by omega)]
      congr 1
      omega
  | succ m ih =>
    intro i hi
    obtain ⟨k1, h1⟩ := ih (i + 1) (by omega)
    obtain ⟨k2, h2⟩ := goes_f (s.take i) (by rw [List.length_take]; omega)
    have hok := prefix_ok _ s i (Nat.le_refl _) (Or.inr (by omega))
    refine ⟨max k1 k2 + 1, ?_⟩
    simp only [longlineref14_Fault.l0]
    rw [ba_size, if_pos (by omega), if_pos (by omega), hx, lift (fun k => longlineref14_goes.f k ⟨(s.take i).toArray⟩) (fun k => longlineref14_goes.mono _ k) h2 (Nat.le_max_right k1 k2), Option.bind_some, decide_eq_true hok, if_pos rfl, w64 (by omega) (by omega)]
    exact lift (fun k => longlineref14_Fault.l0 k ⟨s.toArray⟩ ((i + 1 : Nat) : Int)) (fun k => (longlineref14_Fault.mono_l k) _ _) h1 (Nat.le_max_left k1 k2)

theorem ref_fault (s : List UInt8) (hs : s.length ≤ 100000000) : ∃ k, longlineref14_Fault.f k ⟨s.toArray⟩ = some (if fault s < 0 then -1 else fault s) := by
  obtain ⟨k1, h1⟩ := ref_read s (by omega)
  by_cases hf : fault s < 0
  · refine ⟨k1, ?_⟩
    unfold longlineref14_Fault.f
    rw [h1, if_pos hf, if_pos hf, Option.bind_some, if_pos rfl]
  · obtain ⟨k2, h2⟩ := ref_fault_l s hs (by omega) (fault s).toNat 1 (by omega)
    refine ⟨max k1 k2, ?_⟩
    unfold longlineref14_Fault.f
    rw [lift (fun k => longlineref14_Read.f k ⟨s.toArray⟩) (fun k => longlineref14_Read.mono _ k) h1 (Nat.le_max_left k1 k2), if_neg hf, if_neg hf, Option.bind_some, if_neg (by decide)]
    exact lift (fun k => longlineref14_Fault.l0 k ⟨s.toArray⟩ 1) (fun k => (longlineref14_Fault.mono_l k) _ _) h2 (Nat.le_max_right k1 k2)
end Go.Proofs.Ytdnkclccjgcelaa.BaseE
