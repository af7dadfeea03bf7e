/- UtfReads: for every list of bytes, every list of numbers and every number the law's printed function answers true, given enough rounds: the machine reads what the document reads. -/
import Derived.Test.YtppkfpjgejognaaQUtfx5
import Derived.Test.YtppkfpjgejognaaUtfFacts
namespace Go.Proofs.Ytppkfpjgejognaa.Pure
open Go.RowKit Go.Proofs.Ytppkfpjgejognaa.QUtf Go.Proofs.YtppkfpjgejognaaW.PrintWords Go.Proofs.YtppkfpjgejognaaW.PrintLast
open Go.Proofs.Ytppkfpjgejognaa.UtfCore Go.Proofs.Ytppkfpjgejognaa.UtfFacts

/-- How many bytes follow a beginning. -/
def fol (c : Int) : Int := if 194 ≤ c ∧ c ≤ 223 then 1 else if 224 ≤ c ∧ c ≤ 239 then 2 else if 240 ≤ c ∧ c ≤ 244 then 3 else 0

theorem follows_eq (c : Int) (k : Nat) (hk : 2 ≤ k) : longlineref13_follows.f k c = some (fol c) := by
  obtain ⟨k, rfl⟩ : ∃ j, k = j + 2 := ⟨k - 2, by omega⟩
  unfold fol
  simp only [longlineref13_follows.f]
  by_cases c1 : 194 ≤ c ∧ c ≤ 223
  · rw [if_pos c1, if_pos (by omega), decide_eq_true c1.2]; simp only [longlineref13_follows.j0, if_true]
  · have hj : (if c ≥ 194 then longlineref13_follows.j0 (k + 2) c (decide (c ≤ 223)) else longlineref13_follows.j0 (k + 2) c false) = longlineref13_follows.j0 (k + 2) c false := by
      by_cases c0 : c ≥ 194
      · rw [if_pos c0, decide_eq_false (by omega)]
      · rw [if_neg c0]
    rw [if_neg c1, hj]
    simp only [longlineref13_follows.j0, Bool.false_eq_true, if_false]
    by_cases c2 : 224 ≤ c ∧ c ≤ 239
    · rw [if_pos c2, if_pos c2.1, decide_eq_true c2.2]; simp only [longlineref13_follows.j1, if_true]
    · have hj1 : (if c ≥ 224 then longlineref13_follows.j1 (k + 1) c (decide (c ≤ 239)) else longlineref13_follows.j1 (k + 1) c false) = longlineref13_follows.j1 (k + 1) c false := by
        by_cases c0 : c ≥ 224
        · rw [if_pos c0, decide_eq_false (by omega)]
        · rw [if_neg c0]
      rw [if_neg c2, hj1]
      simp only [longlineref13_follows.j1, Bool.false_eq_true, if_false]
      by_cases c3 : 240 ≤ c ∧ c ≤ 244
      · rw [if_pos c3, if_pos c3.1, if_pos c3.2]
      · rw [if_neg c3]
        by_cases c0 : c ≥ 240
        · rw [if_pos c0, if_neg (by omega)]
        · rw [if_neg c0]

/-- Between what a following byte must be. -/
def loOf (first i : Int) : Int := if i = 1 then (if first = 224 then 160 else if first = 240 then 144 else 128) else 128
def hiOf (first i : Int) : Int := if i = 1 then (if first = 237 then 159 else if first = 244 then 143 else 191) else 191

theorem may_eq (first i c : Int) : longlineref13_may.f first i c = some (decide (loOf first i ≤ c ∧ c ≤ hiOf first i)) := by
  simp only [longlineref13_may.f]; unfold loOf hiOf
  have key : ∀ lo hi : Int, (if c ≥ lo then some (decide (c ≤ hi)) else some false) = some (decide (lo ≤ c ∧ c ≤ hi)) := by
    intro lo hi
    by_cases h : c ≥ lo
    · rw [if_pos h]; simp; omega
    · rw [if_neg h]; simp; omega
  by_cases c1 : i = 1
  · rw [if_pos c1, if_pos c1, if_pos c1]
    by_cases a : first = 224
    · rw [if_pos a, if_pos a, if_neg (show ¬ first = 237 by omega), if_neg (show ¬ first = 244 by omega)]; exact key _ _
    · rw [if_neg a, if_neg a]
      by_cases b : first = 237
      · rw [if_pos b, if_neg (show ¬ first = 240 by omega), if_pos b]; exact key _ _
      · rw [if_neg b, if_neg b]
        by_cases d : first = 240
        · rw [if_pos d, if_pos d, if_neg (show ¬ first = 244 by omega)]; exact key _ _
        · rw [if_neg d, if_neg d]
          by_cases e : first = 244
          · rw [if_pos e, if_pos e]; exact key _ _
          · rw [if_neg e, if_neg e]; exact key _ _
  · rw [if_neg c1, if_neg c1, if_neg c1]; exact key _ _

/-- Within a point: what the document tells from its i-th byte on is what the machine does. -/
theorem one_l0 (l : List Int) (hl : ∀ c ∈ l, 0 ≤ c ∧ c ≤ 255) (hlen : l.length ≤ 2000) (at_ first n : Int) (ha0 : 0 ≤ at_) (ha1 : at_ < (l.length : Int)) (hn0 : 1 ≤ n) (hn1 : n ≤ 3) : ∀ (d k : Nat) (i v : Int), 1 ≤ i → i + d = n → at_ + i ≤ l.length → d + 2 ≤ k →
    Fine (some (v, n - i + 1, i, loOf first i, hiOf first i)) →
    ∃ p q, longlineref13_One.l0 k l at_ first n v i = some (p, q) ∧
      ((q = 0 ∧ ∃ z, run (some (v, n - i + 1, i, loOf first i, hiOf first i)) (l.drop (at_ + i).toNat) = ([], some z) ∧ came (some z) = (l.length : Int) - at_) ∨
        (1 ≤ q ∧ q ≤ 4 ∧ at_ + q ≤ l.length ∧ run (some (v, n - i + 1, i, loOf first i, hiOf first i)) (l.drop (at_ + i).toNat) = (p :: (run none (l.drop (at_ + q).toNat)).1, (run none (l.drop (at_ + q).toNat)).2))) := by
  have body : ∀ (k : Nat) (i v : Int), 1 ≤ i → i ≤ n → at_ + i ≤ l.length → Fine (some (v, n - i + 1, i, loOf first i, hiOf first i)) → (next : Prop) →
      (next ↔ ∃ p q, longlineref13_One.l0 k l at_ first n (v * 64 + rd l (at_ + i) % 64) (i + 1) = some (p, q) ∧
        ((q = 0 ∧ ∃ z, run (feed (some (v, n - i + 1, i, loOf first i, hiOf first i)) (rd l (at_ + i))).2 (l.drop (at_ + (i + 1)).toNat) = ([], some z) ∧ came (some z) = (l.length : Int) - at_ ∧ (feed (some (v, n - i + 1, i, loOf first i, hiOf first i)) (rd l (at_ + i))).1 = []) ∨
          (1 ≤ q ∧ q ≤ 4 ∧ at_ + q ≤ l.length ∧ ((feed (some (v, n - i + 1, i, loOf first i, hiOf first i)) (rd l (at_ + i))).1 ++ (run (feed (some (v, n - i + 1, i, loOf first i, hiOf first i)) (rd l (at_ + i))).2 (l.drop (at_ + (i + 1)).toNat)).1, (run (feed (some (v, n - i + 1, i, loOf first i, hiOf first i)) (rd l (at_ + i))).2 (l.drop (at_ + (i + 1)).toNat)).2) = (p :: (run none (l.drop (at_ + q).toNat)).1, (run none (l.drop (at_ + q).toNat)).2)))) →
      (at_ + i < (l.length : Int) → loOf first i ≤ rd l (at_ + i) → rd l (at_ + i) ≤ hiOf first i → next) →
      ∃ p q, longlineref13_One.l0 (k + 1) l at_ first n v i = some (p, q) ∧
        ((q = 0 ∧ ∃ z, run (some (v, n - i + 1, i, loOf first i, hiOf first i)) (l.drop (at_ + i).toNat) = ([], some z) ∧ came (some z) = (l.length : Int) - at_) ∨
          (1 ≤ q ∧ q ≤ 4 ∧ at_ + q ≤ l.length ∧ run (some (v, n - i + 1, i, loOf first i, hiOf first i)) (l.drop (at_ + i).toNat) = (p :: (run none (l.drop (at_ + q).toNat)).1, (run none (l.drop (at_ + q).toNat)).2))) := by
    intro k i v hi0 hi1 hil hg next hnext hthen
    have hv : 0 ≤ v ∧ v < 32768 := by rcases hg with h | h | h | h | h | h <;> omega
    have hlo : 128 ≤ loOf first i ∧ hiOf first i ≤ 191 := by unfold loOf hiOf; (repeat' split) <;> omega
    simp only [longlineref13_One.l0]; rw [if_pos hi1, w64 (n := at_ + i) (by omega) (by omega)]
    by_cases ce : at_ + i ≥ (l.length : Int)
    · have hd : l.drop (at_ + i).toNat = [] := List.drop_eq_nil_of_le (by omega)
      rw [if_pos ce, hd]
      refine ⟨0, 0, rfl, .inl ⟨rfl, (v, n - i + 1, i, loOf first i, hiOf first i), rfl, ?_⟩⟩
      rw [came_eq]
      omega
    · have hlt : at_ + i < (l.length : Int) := by omega
      have hc := hl _ (rd_mem (show 0 ≤ at_ + i by omega) hlt)
      rw [if_neg ce, if_pos (by omega), if_pos hlt, w64 (n := rd l (at_ + i)) (by omega) (by omega), may_eq]
      simp only [Option.bind_some]
      rw [drop_rd (show 0 ≤ at_ + i by omega) hlt, run_cons]
      by_cases cm : loOf first i ≤ rd l (at_ + i) ∧ rd l (at_ + i) ≤ hiOf first i
      · rw [decide_eq_true cm, if_pos rfl, w64 (n := 64 * v) (by omega) (by omega), w64 (n := 64 * v + rd l (at_ + i)) (by omega) (by omega), w64 (n := 64 * v + rd l (at_ + i) - 128) (by omega) (by omega), w64 (n := i + 1) (by omega) (by omega),
          show 64 * v + rd l (at_ + i) - 128 = v * 64 + rd l (at_ + i) % 64 by omega, show at_ + i + 1 = at_ + (i + 1) by omega]
        obtain ⟨p, q, e, h⟩ := hnext.1 (hthen hlt cm.1 cm.2)
        refine ⟨p, q, e, ?_⟩
        rcases h with ⟨h0, z, hz, hzc, hzn⟩ | ⟨h0, h1, h2, hz⟩
        · exact .inl ⟨h0, z, by rw [hz, hzn]; rfl, hzc⟩
        · exact .inr ⟨h0, h1, h2, hz⟩
      · rw [decide_eq_false cm, if_neg (by decide)]
        have e : feed (some (v, n - i + 1, i, loOf first i, hiOf first i)) (rd l (at_ + i)) = (65533 :: (idle (rd l (at_ + i))).1, (idle (rd l (at_ + i))).2) := by simp only [feed]; rw [if_pos (by omega)]
        refine ⟨65533, i, rfl, .inr ⟨hi0, by omega, by omega, ?_⟩⟩
        rw [e, drop_rd (show 0 ≤ at_ + i by omega) hlt, run_cons, step_none]; rfl
  intro d
  induction d with
  | zero =>
    intro k i v hi0 hi1 hil hk hg
    obtain ⟨k, rfl⟩ : ∃ j, k = j + 2 := ⟨k - 2, by omega⟩
    refine body (k + 1) i v hi0 (by omega) hil hg _ Iff.rfl (fun hlt h1 h2 => ?_)
    have hv : 0 ≤ v ∧ v < 32768 := by rcases hg with h | h | h | h | h | h <;> omega
    have e : feed (some (v, n - i + 1, i, loOf first i, hiOf first i)) (rd l (at_ + i)) = ([v * 64 + rd l (at_ + i) % 64], none) := by
      simp only [feed]; rw [if_neg (by omega), if_pos (by omega)]
    simp only [longlineref13_One.l0]; rw [if_neg (by omega), w32 (by omega) (by omega), w64 (n := n + 1) (by omega) (by omega), e]
    refine ⟨_, _, rfl, .inr ⟨by omega, by omega, by omega, ?_⟩⟩
    rw [show at_ + (i + 1) = at_ + (n + 1) by omega]; rfl
  | succ d ih =>
    intro k i v hi0 hi1 hil hk hg
    obtain ⟨k, rfl⟩ : ∃ j, k = j + 1 := ⟨k - 1, by omega⟩
    refine body k i v hi0 (by omega) hil hg _ Iff.rfl (fun hlt h1 h2 => ?_)
    have hc := hl _ (rd_mem (show 0 ≤ at_ + i by omega) hlt)
    have e : feed (some (v, n - i + 1, i, loOf first i, hiOf first i)) (rd l (at_ + i)) = ([], some (v * 64 + rd l (at_ + i) % 64, n - (i + 1) + 1, i + 1, loOf first (i + 1), hiOf first (i + 1))) := by
      simp only [feed]; rw [if_neg (by omega), if_neg (by omega)]
      have a : loOf first (i + 1) = 128 := by unfold loOf; rw [if_neg (by omega)]
      have b : hiOf first (i + 1) = 191 := by unfold hiOf; rw [if_neg (by omega)]
      rw [a, b, show n - i + 1 - 1 = n - (i + 1) + 1 by omega]
    have hg2 := (step_facts _ (rd l (at_ + i)) hg hc.1 hc.2).1
    rw [e] at hg2
    obtain ⟨p, q, e1, h⟩ := ih k (i + 1) (v * 64 + rd l (at_ + i) % 64) (by omega) (by omega) (by omega) (by omega) hg2
    refine ⟨p, q, e1, ?_⟩
    rw [e]
    rcases h with ⟨h0, z, hz, hzc⟩ | ⟨h0, h1, h2, hz⟩
    · exact .inl ⟨h0, z, hz, hzc, rfl⟩
    · exact .inr ⟨h0, h1, h2, by rw [hz]; rfl⟩

theorem one_eq (l : List Int) (hl : ∀ c ∈ l, 0 ≤ c ∧ c ≤ 255) (hlen : l.length ≤ 2000) (at_ : Int) (ha0 : 0 ≤ at_) (ha1 : at_ < (l.length : Int)) (k : Nat) (hk : 10 ≤ k) :
    ∃ p q, longlineref13_One.f k l at_ = some (p, q) ∧
      ((q = 0 ∧ ∃ z, run none (l.drop at_.toNat) = ([], some z) ∧ came (some z) = (l.length : Int) - at_) ∨
        (1 ≤ q ∧ q ≤ 4 ∧ at_ + q ≤ l.length ∧ run none (l.drop at_.toNat) = (p :: (run none (l.drop (at_ + q).toNat)).1, (run none (l.drop (at_ + q).toNat)).2))) := by
  have hc := hl _ (rd_mem ha0 ha1)
  simp only [longlineref13_One.f]; rw [if_pos ha0, if_pos ha1, w64 (n := rd l at_) (by omega) (by omega), drop_rd ha0 ha1, run_cons, step_none]
  by_cases c1 : rd l at_ < 128
  · rw [if_pos c1, w32 (by omega) (by omega), idle_1 _ c1]
    exact ⟨_, _, rfl, .inr ⟨by omega, by omega, by omega, rfl⟩⟩
  · rw [if_neg c1, follows_eq _ k (by omega)]
    simp only [Option.bind_some]
    have go : ∀ (n v : Int), 1 ≤ n → n ≤ 3 → idle (rd l at_) = ([], some (v, n, 1, loOf (rd l at_) 1, hiOf (rd l at_) 1)) →
        ∃ p q, longlineref13_One.l0 k l at_ (rd l at_) n v 1 = some (p, q) ∧
          ((q = 0 ∧ ∃ z, ((idle (rd l at_)).1 ++ (run (idle (rd l at_)).2 (l.drop (at_ + 1).toNat)).1, (run (idle (rd l at_)).2 (l.drop (at_ + 1).toNat)).2) = ([], some z) ∧ came (some z) = (l.length : Int) - at_) ∨
            (1 ≤ q ∧ q ≤ 4 ∧ at_ + q ≤ l.length ∧ ((idle (rd l at_)).1 ++ (run (idle (rd l at_)).2 (l.drop (at_ + 1).toNat)).1, (run (idle (rd l at_)).2 (l.drop (at_ + 1).toNat)).2) = (p :: (run none (l.drop (at_ + q).toNat)).1, (run none (l.drop (at_ + q).toNat)).2))) := by
      intro n v hn0 hn1 e
      have hg := (idle_facts (rd l at_) hc.1).1
      rw [e] at hg ⊢
      have en : n - 1 + 1 = n := by omega
      obtain ⟨p, q, e1, h⟩ := one_l0 l hl hlen at_ (rd l at_) n ha0 ha1 hn0 hn1 (n - 1).toNat k 1 v (by omega) (by omega) (by omega) (by omega) (by rw [en]; exact hg)
      rw [en] at h
      exact ⟨p, q, e1, h⟩
    by_cases a2 : 194 ≤ rd l at_ ∧ rd l at_ ≤ 223
    · have ef : fol (rd l at_) = 1 := by unfold fol; rw [if_pos a2]
      have er : rd [0, 192, 224, 240] 1 = 192 := rfl
      rw [ef, if_neg (by omega), if_pos (by omega), if_pos (by decide), er, w64 (by omega) (by omega)]
      refine go 1 _ (by omega) (by omega) ?_
      rw [idle_2 _ a2.1 a2.2]
      have h1 : loOf (rd l at_) 1 = 128 := by unfold loOf; rw [if_pos rfl, if_neg (by omega), if_neg (by omega)]
      have h2 : hiOf (rd l at_) 1 = 191 := by unfold hiOf; rw [if_pos rfl, if_neg (by omega), if_neg (by omega)]
      rw [h1, h2, show rd l at_ % 32 = rd l at_ - 192 by omega]
    · by_cases a3 : 224 ≤ rd l at_ ∧ rd l at_ ≤ 239
      · have ef : fol (rd l at_) = 2 := by unfold fol; rw [if_neg a2, if_pos a3]
        have er : rd [0, 192, 224, 240] 2 = 224 := rfl
        rw [ef, if_neg (by omega), if_pos (by omega), if_pos (by decide), er, w64 (by omega) (by omega)]
        refine go 2 _ (by omega) (by omega) ?_
        rw [idle_3 _ a3.1 a3.2]
        have h1 : loOf (rd l at_) 1 = if rd l at_ = 224 then 160 else 128 := by unfold loOf; rw [if_pos rfl]; (repeat' split) <;> omega
        have h2 : hiOf (rd l at_) 1 = if rd l at_ = 237 then 159 else 191 := by unfold hiOf; rw [if_pos rfl]; (repeat' split) <;> omega
        rw [h1, h2, show rd l at_ % 16 = rd l at_ - 224 by omega]
      · by_cases a4 : 240 ≤ rd l at_ ∧ rd l at_ ≤ 244
        · have ef : fol (rd l at_) = 3 := by unfold fol; rw [if_neg a2, if_neg a3, if_pos a4]
          have er : rd [0, 192, 224, 240] 3 = 240 := rfl
          rw [ef, if_neg (by omega), if_pos (by omega), if_pos (by decide), er, w64 (by omega) (by omega)]
          refine go 3 _ (by omega) (by omega) ?_
          rw [idle_4 _ a4.1 a4.2]
          have h1 : loOf (rd l at_) 1 = if rd l at_ = 240 then 144 else 128 := by unfold loOf; rw [if_pos rfl]; (repeat' split) <;> omega
          have h2 : hiOf (rd l at_) 1 = if rd l at_ = 244 then 143 else 191 := by unfold hiOf; rw [if_pos rfl]; (repeat' split) <;> omega
          rw [h1, h2, show rd l at_ % 8 = rd l at_ - 240 by omega]
        · have ef : fol (rd l at_) = 0 := by unfold fol; rw [if_neg a2, if_neg a3, if_neg a4]
          have ei : idle (rd l at_) = ([65533], none) := by unfold idle beg; rw [if_neg c1, if_neg a2, if_neg a3, if_neg a4]
          rw [ef, if_pos rfl, ei]
          exact ⟨_, _, rfl, .inr ⟨by omega, by omega, by omega, rfl⟩⟩

theorem ref_read (l : List Int) (hl : ∀ c ∈ l, 0 ≤ c ∧ c ≤ 255) (hlen : l.length ≤ 2000) : ∀ (r k : Nat) (at_ : Int) (out : List Int), 0 ≤ at_ → at_ ≤ l.length → (l.length : Int) - at_ ≤ r → out.length + r ≤ 10000 → r + 20 ≤ k →
    longlineref13_Read.l0 k l out at_ = some (out ++ (run none (l.drop at_.toNat)).1, came (run none (l.drop at_.toNat)).2) := by
  intro r
  induction r with
  | zero =>
    intro k at_ out h0 h1 hr ho hk
    obtain ⟨k, rfl⟩ : ∃ j, k = j + 1 := ⟨k - 1, by omega⟩
    have hd : l.drop at_.toNat = [] := List.drop_eq_nil_of_le (by omega)
    simp only [longlineref13_Read.l0]; rw [if_neg (by omega), hd]; simp [run, came]
  | succ r ih =>
    intro k at_ out h0 h1 hr ho hk
    obtain ⟨k, rfl⟩ : ∃ j, k = j + 1 := ⟨k - 1, by omega⟩
    simp only [longlineref13_Read.l0]
    by_cases c : at_ < (l.length : Int)
    · obtain ⟨p, q, e, h⟩ := one_eq l hl hlen at_ h0 c k (by omega)
      rw [if_pos c, e]
      simp only [Option.bind_some]
      rcases h with ⟨hq, z, hz, hzc⟩ | ⟨hq0, hq1, hq2, hz⟩
      · rw [if_pos hq, w64 (by omega) (by omega), hz, hzc]; simp
      · rw [if_neg (by omega), if_pos (by omega), w64 (by omega) (by omega), ih k (at_ + q) _ (by omega) (by omega) (by omega) (by rw [List.length_append, List.length_singleton]; omega) (by omega), hz]
        simp
    · have hd : l.drop at_.toNat = [] := List.drop_eq_nil_of_le (by omega)
      rw [if_neg c, hd]; simp [run, came]

theorem ref_is (p : Int) : ∃ b, longlineref13_Is.f p = some b ∧ (b = true ↔ isPt p) := by
  simp only [longlineref13_Is.f]; unfold isPt
  (repeat' split) <;> refine ⟨_, rfl, ?_⟩ <;> simp <;> omega

theorem ref_j1 (l out : List Int) (i p : Int) (k : Nat) (hp : isPt p) (hi0 : 0 ≤ i) (hi1 : i ≤ 100000) (ho : out.length ≤ 1000000) :
    longlineref13_Bytes.j1 (k + 1) l out i p = longlineref13_Bytes.l0 k l (out ++ enc p) (i + 1) := by
  obtain ⟨h0, h1, h2⟩ := hp
  simp only [longlineref13_Bytes.j1]; unfold enc; rw [w64 (n := i + 1) (by omega) (by omega)]
  have d1 := Int.tdiv_eq_ediv_of_nonneg (b := 64) h0
  have d2 := Int.tdiv_eq_ediv_of_nonneg (b := 4096) h0
  have d3 := Int.tdiv_eq_ediv_of_nonneg (b := 262144) h0
  have m1 := Int.tmod_eq_emod_of_nonneg (b := 64) h0
  have m2 := Int.tmod_eq_emod_of_nonneg (a := p / 64) (b := 64) (by omega)
  have m3 := Int.tmod_eq_emod_of_nonneg (a := p / 4096) (b := 64) (by omega)
  rw [d1, d2, d3, m1, w32 (n := p / 64) (by omega) (by omega), w32 (n := p / 4096) (by omega) (by omega), m2, m3]
  by_cases c1 : p < 128
  · rw [if_pos c1, if_pos c1, if_pos (by omega), show p % 256 = p by omega]
  · rw [if_neg c1, if_neg c1]
    by_cases c2 : p < 2048
    · rw [if_pos c2, if_pos c2, Option.bind_some, if_pos (by simp only [List.length_cons, List.length_nil]; omega), w32 (n := 192 + p / 64) (by omega) (by omega), w32 (n := 128 + p % 64) (by omega) (by omega), show (192 + p / 64) % 256 = 192 + p / 64 by omega, show (128 + p % 64) % 256 = 128 + p % 64 by omega]
    · rw [if_neg c2, if_neg c2]
      by_cases c3 : p < 65536
      · rw [if_pos c3, if_pos c3, Option.bind_some, if_pos (by simp only [List.length_cons, List.length_nil]; omega), w32 (n := 224 + p / 4096) (by omega) (by omega), w32 (n := 128 + p / 64 % 64) (by omega) (by omega), w32 (n := 128 + p % 64) (by omega) (by omega),
          show (224 + p / 4096) % 256 = 224 + p / 4096 by omega, show (128 + p / 64 % 64) % 256 = 128 + p / 64 % 64 by omega, show (128 + p % 64) % 256 = 128 + p % 64 by omega]
      · rw [if_neg c3, if_neg c3, Option.bind_some, if_pos (by simp only [List.length_cons, List.length_nil]; omega), w32 (n := p / 262144) (by omega) (by omega), w32 (n := 240 + p / 262144) (by omega) (by omega), w32 (n := 128 + p / 4096 % 64) (by omega) (by omega), w32 (n := 128 + p / 64 % 64) (by omega) (by omega), w32 (n := 128 + p % 64) (by omega) (by omega),
          show (240 + p / 262144) % 256 = 240 + p / 262144 by omega, show (128 + p / 4096 % 64) % 256 = 128 + p / 4096 % 64 by omega, show (128 + p / 64 % 64) % 256 = 128 + p / 64 % 64 by omega, show (128 + p % 64) % 256 = 128 + p % 64 by omega]

theorem ref_bytes (l : List Int) (hlen : l.length ≤ 1000) : ∀ (r k : Nat) (i : Int) (out : List Int), 0 ≤ i → i + r = l.length → out.length + 4 * r ≤ 100000 → 2 * r + 2 ≤ k →
    longlineref13_Bytes.l0 k l out i = some (out ++ (l.drop i.toNat).flatMap encB) := by
  intro r
  induction r with
  | zero =>
    intro k i out h0 h1 ho hk
    obtain ⟨k, rfl⟩ : ∃ j, k = j + 1 := ⟨k - 1, by omega⟩
    have hd : l.drop i.toNat = [] := List.drop_eq_nil_of_le (by omega)
    simp only [longlineref13_Bytes.l0]; rw [if_neg (by omega), hd]; simp
  | succ r ih =>
    intro k i out h0 h1 ho hk
    obtain ⟨k, rfl⟩ : ∃ j, k = j + 2 := ⟨k - 2, by omega⟩
    have hlt : i < (l.length : Int) := by omega
    obtain ⟨b, hb, hbi⟩ := ref_is (rd l i)
    have key : ∀ q, isPt q → longlineref13_Bytes.j1 (k + 1) l out i q = some (out ++ (enc q ++ (l.drop (i + 1).toNat).flatMap encB)) := by
      intro q hq
      have := enc_len q
      rw [ref_j1 l out i q k hq h0 (by omega) (by omega), ih k (i + 1) _ (by omega) (by omega) (by rw [List.length_append]; omega) (by omega), List.append_assoc]
    simp only [longlineref13_Bytes.l0]; rw [if_pos hlt, if_pos h0, hb, drop_rd h0 hlt, List.flatMap_cons]
    simp only [Option.bind_some]
    by_cases c : b = true
    · rw [if_pos c, key _ (hbi.1 c), encB_of (hbi.1 c)]
    · rw [if_neg c, key _ isPt_bad, encB_bad (fun h => c (hbi.2 h))]

theorem reads_j2 (b l : List Int) (p : Int) (y : List Int) (k : Nat) (hb : ∀ c ∈ b, 0 ≤ c ∧ c ≤ 255) (hbl : b.length ≤ 2000) (hll : l.length ≤ 500) (hy : y = pts b) (hk : 20000 ≤ k) :
    longlinelaw13_UtfReads.j2 (k + 1) b l p y = some true := by
  have hpl := (pts_facts b hb).2.1
  obtain ⟨t, ht, hti⟩ := is_eq p
  obtain ⟨u, hu, hui⟩ := ref_is p
  have htu : (t == u) = true := by
    have : t = true ↔ u = true := hti.trans hui.symm
    cases t <;> cases u <;> simp_all
  simp only [longlinelaw13_UtfReads.j2, utf_Reader_Read_nil.f, utf_Reader_End_nil.f, utf_Reader_Waits_nil.f, utf_Reader_Read.f, Option.bind_some, Bool.false_eq_true, if_false]
  rw [alive_eq (by omega)]
  simp only [Option.bind_some, if_true]; rw [points_eq b hb (by omega) k (by omega), hy]
  simp only [Option.bind_some]; rw [same_eq _ _ rfl (by omega) k (by omega)]
  simp only [Option.bind_some, if_true]; rw [bytes_eq l (by omega) k (by omega)]
  have hr := ref_bytes l (by omega) l.length k 0 [] (by omega) (by omega) (by simp; omega) (by omega)
  simp only [Int.toNat_zero, List.drop_zero, List.nil_append] at hr
  simp only [Option.bind_some, longlineref13_Bytes.f]; rw [hr]
  simp only [Option.bind_some, if_true]; rw [ht, hu]
  simp only [Option.bind_some]; rw [htu]; rfl

theorem reads_j0 (b l : List Int) (p : Int) (k : Nat) (hb : ∀ c ∈ b, 0 ≤ c ∧ c ≤ 255) (hbl : b.length ≤ 2000) (hll : l.length ≤ 500) (hk : 30000 ≤ k) : longlinelaw13_UtfReads.j0 (k + 1) b l p false = some true := by
  obtain ⟨k, rfl⟩ : ∃ j, k = j + 2 := ⟨k - 2, by omega⟩
  obtain ⟨p1, n1, m1, lo1, hi1, e1, r1⟩ := read_eq b hb (by omega) (k + 2) none 0 0 0 0 0 rfl (by omega)
  have hr := ref_read b hb hbl b.length (k + 2) 0 [] (by omega) (by omega) (by omega) (by simp; omega) (by omega)
  simp only [Int.toNat_zero, List.drop_zero, List.nil_append] at hr
  have hpl := run_plain_len b none
  have hm := rep_came r1
  simp only [longlinelaw13_UtfReads.j0, Bool.false_eq_true, if_false, utf_New.f, Option.bind_some]; rw [e1]
  simp only [Option.bind_some, longlineref13_Read.f]; rw [hr]
  simp only [Option.bind_some]; rw [same_eq _ _ rfl (by omega) (k + 2) (by omega)]
  simp only [Option.bind_some, if_true, utf_Reader_Waits.f]; rw [hm, show (came (run none b).2 != came (run none b).2) = false from by simp]
  simp only [longlinelaw13_UtfReads.j1, Bool.false_eq_true, if_false]
  have hg := (run_facts b none trivial hb).1
  rcases came_pos _ hg with ⟨hn, h0⟩ | ⟨⟨z, hz⟩, h1⟩
  · rw [if_neg (by omega)]
    exact reads_j2 b l p _ k hb hbl hll (by rw [pts_fin, hn]; simp [fin]) (by omega)
  · rw [if_pos (by omega), if_pos (by omega)]
    exact reads_j2 b l p _ k hb hbl hll (by rw [pts_fin, hz]; rfl) (by omega)

theorem UtfReads : longlinelaw13_UtfReads.Pure := by
  intro b l p _ _ hb _ _ _ _
  have hb' : ∀ c ∈ b, 0 ≤ c ∧ c ≤ 255 := fun c h => Go.bounds_u8 (hb c h)
  obtain ⟨K, hK⟩ : ∃ K : Nat, K = 40000 := ⟨_, rfl⟩
  refine ⟨K + 1, ?_⟩
  have stop : longlinelaw13_UtfReads.j0 (K + 1) b l p true = some true := by
    simp only [longlinelaw13_UtfReads.j0, if_true]; rw [alive_eq (by omega)]; rfl
  rw [longlinelaw13_UtfReads.f]
  by_cases c : (b.length : Int) > 2000
  · rw [if_pos c]; exact stop
  · rw [if_neg c]
    by_cases c2 : (l.length : Int) > 500
    · rw [decide_eq_true c2]; exact stop
    · rw [decide_eq_false c2]; exact reads_j0 b l p K hb' (by omega) (by omega) (by omega)
end Go.Proofs.Ytppkfpjgejognaa.Pure
