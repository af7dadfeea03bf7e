/- What the reader's printed functions come to: the machine of UtfCore. -/
import Derived.Test.YtppkfpjgejognaaQUtfx4
import Derived.Test.YtppkfpjgejognaaUtfCore
import Derived.OpenShut
import Derived.Laws.BitsLemmas
import Derived.KernelRfl
namespace Go.Proofs.Ytppkfpjgejognaa.UtfFacts
open Go.RowKit Go.Proofs.Ytppkfpjgejognaa.QUtf Go.Proofs.YtppkfpjgejognaaW.PrintWords Go.Proofs.YtppkfpjgejognaaW.PrintLast
open Go.Proofs.Ytppkfpjgejognaa.UtfCore

theorem w64 {n : Int} (h0 : -9223372036854775808 ≤ n) (h1 : n < 9223372036854775808) : wrap64 n = n := by unfold wrap64; omega
theorem w32 {n : Int} (h0 : -2147483648 ≤ n) (h1 : n < 2147483648) : wrap32 n = n := by unfold wrap32; omega

theorem rd_mem {l : List Int} {i : Int} (h0 : 0 ≤ i) (h : i < (l.length : Int)) : rd l i ∈ l := by
  have hn : i.toNat < l.length := by omega
  unfold rd
  rw [List.getD_eq_getElem?_getD, List.getElem?_eq_getElem hn]
  exact List.getElem_mem hn
theorem drop_rd {l : List Int} {i : Int} (h0 : 0 ≤ i) (h : i < (l.length : Int)) : l.drop i.toNat = rd l i :: l.drop (i + 1).toNat := by
  have hn : i.toNat < l.length := by omega
  rw [List.drop_eq_getElem_cons hn, show (i + 1).toNat = i.toNat + 1 by omega]
  unfold rd
  rw [List.getD_eq_getElem?_getD, List.getElem?_eq_getElem hn]; rfl

/-- The fields that hold what waits. -/
def Rep (s : St) (p n m lo hi : Int) : Prop := match s with
  | none => m = 0
  | some z => z = (p, n, m, lo, hi) ∧ Fine s

theorem begin_some (mk : Bool) (p n m lo hi c : Int) (k : Nat) (hk : 4 ≤ k) (hc0 : 0 ≤ c) (hc1 : c ≤ 255) (z : Int × Int × Int × Int × Int) (hb : beg c = some z) :
    utf_Reader_begin.f k mk p n m lo hi c = some (true, mk, z.1, z.2.1, z.2.2.1, z.2.2.2.1, z.2.2.2.2) := by
  obtain ⟨k, rfl⟩ : ∃ j, k = j + 3 := ⟨k - 3, by omega⟩
  obtain ⟨k, rfl⟩ : ∃ j, k = j + 1 := ⟨k - 1, by omega⟩
  unfold beg at hb
  simp only [utf_Reader_begin.f]
  by_cases c1 : 194 ≤ c ∧ c ≤ 223
  · rw [if_pos c1] at hb
    cases hb
    rw [if_pos (by omega), decide_eq_true c1.2]
    simp only [utf_Reader_begin.j0, if_true, utf_Reader_begin.j2]
    rw [Go.u8_and31 _ hc0 (by omega), w32 (by omega) (by omega), if_neg (by omega), if_neg (by omega), if_neg (by omega), if_neg (by omega)]
  · rw [if_neg c1] at hb
    have hj : (if c ≥ 194 then utf_Reader_begin.j0 (k + 1 + 3) c (decide (c ≤ 223)) mk p n m 128 191 else utf_Reader_begin.j0 (k + 1 + 3) c false mk p n m 128 191) = utf_Reader_begin.j0 (k + 1 + 3) c false mk p n m 128 191 := by
      by_cases c0 : c ≥ 194
      · rw [if_pos c0, decide_eq_false (by omega)]
      · rw [if_neg c0]
    rw [hj]
    simp only [utf_Reader_begin.j0, Bool.false_eq_true, if_false]
    by_cases c2 : 224 ≤ c ∧ c ≤ 239
    · rw [if_pos c2] at hb
      cases hb
      rw [if_pos c2.1, decide_eq_true c2.2]
      simp only [utf_Reader_begin.j1, if_true, utf_Reader_begin.j2]
      rw [Go.u8_and15 _ hc0 (by omega), w32 (by omega) (by omega)]
      by_cases e1 : c = 224
      · subst e1; simp
      · rw [if_neg e1, if_neg e1]
        by_cases e2 : c = 237
        · subst e2; simp
        · rw [if_neg e2, if_neg e2, if_neg (by omega), if_neg (by omega)]
    · rw [if_neg c2] at hb
      have hj1 : (if c ≥ 224 then utf_Reader_begin.j1 (k + 1 + 2) c (decide (c ≤ 239)) mk p n m 128 191 else utf_Reader_begin.j1 (k + 1 + 2) c false mk p n m 128 191) = utf_Reader_begin.j1 (k + 1 + 2) c false mk p n m 128 191 := by
        by_cases c0 : c ≥ 224
        · rw [if_pos c0, decide_eq_false (by omega)]
        · rw [if_neg c0]
      rw [hj1]
      simp only [utf_Reader_begin.j1, Bool.false_eq_true, if_false]
      by_cases c3 : 240 ≤ c ∧ c ≤ 244
      · rw [if_pos c3] at hb
        cases hb
        rw [if_pos c3.1, if_pos c3.2]
        simp only [utf_Reader_begin.j2]
        rw [Go.u8_and7 _ hc0 (by omega), w32 (by omega) (by omega), if_neg (by omega), if_neg (by omega)]
        by_cases e1 : c = 240
        · subst e1; simp
        · rw [if_neg e1, if_neg e1]
          by_cases e2 : c = 244
          · subst e2; simp
          · rw [if_neg e2, if_neg e2]
      · rw [if_neg c3] at hb; cases hb

theorem begin_none (mk : Bool) (p n m lo hi c : Int) (k : Nat) (hk : 4 ≤ k) (hb : beg c = none) :
    utf_Reader_begin.f k mk p n m lo hi c = some (false, mk, p, n, m, 128, 191) := by
  obtain ⟨k, rfl⟩ : ∃ j, k = j + 3 := ⟨k - 3, by omega⟩
  unfold beg at hb
  simp only [utf_Reader_begin.f]
  split at hb
  · cases hb
  · rename_i c1
    have hj : (if c ≥ 194 then utf_Reader_begin.j0 (k + 3) c (decide (c ≤ 223)) mk p n m 128 191 else utf_Reader_begin.j0 (k + 3) c false mk p n m 128 191) = utf_Reader_begin.j0 (k + 3) c false mk p n m 128 191 := by
      by_cases c0 : c ≥ 194
      · rw [if_pos c0, decide_eq_false (by omega)]
      · rw [if_neg c0]
    rw [hj]
    simp only [utf_Reader_begin.j0, Bool.false_eq_true, if_false]
    split at hb
    · cases hb
    · rename_i c2
      have hj1 : (if c ≥ 224 then utf_Reader_begin.j1 (k + 2) c (decide (c ≤ 239)) mk p n m 128 191 else utf_Reader_begin.j1 (k + 2) c false mk p n m 128 191) = utf_Reader_begin.j1 (k + 2) c false mk p n m 128 191 := by
        by_cases c0 : c ≥ 224
        · rw [if_pos c0, decide_eq_false (by omega)]
        · rw [if_neg c0]
      rw [hj1]
      simp only [utf_Reader_begin.j1, Bool.false_eq_true, if_false]
      split at hb
      · cases hb
      · rename_i c3
        by_cases c0 : c ≥ 240
        · rw [if_pos c0, if_neg (by omega)]
        · rw [if_neg c0]

/-- A byte where nothing waits. -/
theorem read_idle (l out : List Int) (i p n lo hi : Int) (k : Nat) (hk : 6 ≤ k) (hi0 : 0 ≤ i) (hi1 : i < (l.length : Int)) (hi2 : i ≤ 1000000) (hc0 : 0 ≤ rd l i) (hc1 : rd l i ≤ 255) (ho : out.length < 35184372088832) :
    ∃ p' n' m' lo' hi', utf_Reader_Read.l0 k l out i true p n 0 lo hi = utf_Reader_Read.l0 (k - 2) l (out ++ (idle (rd l i)).1) (i + 1) true p' n' m' lo' hi' ∧ Rep (idle (rd l i)).2 p' n' m' lo' hi' := by
  obtain ⟨k, rfl⟩ : ∃ j, k = j + 2 := ⟨k - 2, by omega⟩
  simp only [utf_Reader_Read.l0]; rw [if_pos hi1, if_pos hi0, if_neg (by omega)]
  simp only [utf_Reader_Read.j1, Bool.false_eq_true, if_false]; rw [if_neg (by omega), w64 (n := i + 1) (by omega) (by omega)]
  by_cases c : rd l i < 128
  · rw [if_pos c, if_pos ho, w32 (by omega) (by omega), idle_1 _ c]
    exact ⟨p, n, 0, lo, hi, rfl, rfl⟩
  · rw [if_neg c]
    cases hb : beg (rd l i) with
    | none =>
      have e : idle (rd l i) = ([65533], none) := by unfold idle; rw [if_neg c, hb]
      rw [begin_none true p n 0 lo hi _ k (by omega) hb, e]
      simp only [Option.bind_some, Bool.false_eq_true, if_false]; rw [if_pos ho]
      exact ⟨p, n, 0, 128, 191, rfl, rfl⟩
    | some z =>
      have hg := good_beg (rd l i)
      rw [hb] at hg
      have e : idle (rd l i) = ([], some z) := by unfold idle; rw [if_neg c, hb]
      rw [begin_some true p n 0 lo hi _ k (by omega) hc0 hc1 z hb, e]
      simp only [Option.bind_some, if_true, List.append_nil]
      exact ⟨_, _, _, _, _, rfl, rfl, hg⟩

theorem read_l0 (l : List Int) (hl : ∀ c ∈ l, 0 ≤ c ∧ c ≤ 255) (hlen : l.length ≤ 100000) : ∀ (r k : Nat) (i : Int) (out : List Int) (s : St) (p n m lo hi : Int), 0 ≤ i → i + r = l.length → Rep s p n m lo hi → out.length + 2 * r ≤ 10000000 → 4 * r + 10 ≤ k →
    ∃ p' n' m' lo' hi', utf_Reader_Read.l0 k l out i true p n m lo hi = some (out ++ (run s (l.drop i.toNat)).1, 0, true, p', n', m', lo', hi') ∧ Rep (run s (l.drop i.toNat)).2 p' n' m' lo' hi' := by
  intro r
  induction r with
  | zero =>
    intro k i out s p n m lo hi hi0 hi1 hr ho hk
    obtain ⟨k, rfl⟩ : ∃ j, k = j + 1 := ⟨k - 1, by omega⟩
    have hd : l.drop i.toNat = [] := List.drop_eq_nil_of_le (by omega)
    rw [hd]
    simp only [utf_Reader_Read.l0]; rw [if_neg (by omega)]
    exact ⟨p, n, m, lo, hi, by simp [run], by simpa [run] using hr⟩
  | succ r ih =>
    intro k i out s p n m lo hi hi0 hi1 hr ho hk
    have hlt : i < (l.length : Int) := by omega
    have hc := hl _ (rd_mem hi0 hlt)
    rw [drop_rd hi0 hlt, run_cons]
    have idles : ∀ (k' : Nat) (out' : List Int) (p n lo hi : Int), 4 * r + 12 ≤ k' → out'.length + 2 * r + 1 ≤ 10000000 → ∃ p' n' m' lo' hi', utf_Reader_Read.l0 k' l out' i true p n 0 lo hi = some (out' ++ ((idle (rd l i)).1 ++ (run (idle (rd l i)).2 (l.drop (i + 1).toNat)).1), 0, true, p', n', m', lo', hi') ∧ Rep (run (idle (rd l i)).2 (l.drop (i + 1).toNat)).2 p' n' m' lo' hi' := by
      intro k' out' p n lo hi hk' ho'
      obtain ⟨p1, n1, m1, lo1, hi1', e, hrep⟩ := read_idle l out' i p n lo hi k' (by omega) hi0 hlt (by omega) hc.1 hc.2 (by omega)
      have hil : (idle (rd l i)).1.length ≤ 1 := by unfold idle; split; simp; split <;> simp
      obtain ⟨p2, n2, m2, lo2, hi2, e2, hrep2⟩ := ih (k' - 2) (i + 1) (out' ++ (idle (rd l i)).1) _ p1 n1 m1 lo1 hi1' (by omega) (by omega) hrep (by rw [List.length_append]; omega) (by omega)
      exact ⟨p2, n2, m2, lo2, hi2, by rw [e, e2, List.append_assoc], hrep2⟩
    cases s with
    | none =>
      simp only [Rep] at hr
      subst hr
      exact idles k out p n lo hi (by omega) (by omega)
    | some z =>
      obtain ⟨rfl, hg⟩ := hr
      obtain ⟨k, rfl⟩ : ∃ j, k = j + 2 := ⟨k - 2, by omega⟩
      have hm : 1 ≤ m ∧ m ≤ 3 ∧ 0 ≤ p ∧ p < 32768 ∧ 1 ≤ n ∧ n ≤ 3 := by rcases hg with h | h | h | h | h | h <;> omega
      simp only [utf_Reader_Read.l0]; rw [if_pos hlt, if_pos hi0, if_pos (by omega)]
      by_cases cb : rd l i < lo ∨ hi < rd l i
      · have e : feed (some (p, n, m, lo, hi)) (rd l i) = (65533 :: (idle (rd l i)).1, (idle (rd l i)).2) := by simp only [feed]; rw [if_pos cb]
        have hj : utf_Reader_Read.j1 (k + 1) l out i (rd l i) true true p n m lo hi = utf_Reader_Read.l0 k l (out ++ [65533]) i true p n 0 lo hi := by
          simp only [utf_Reader_Read.j1, if_true]; rw [if_pos (by omega)]
        have hif : (if rd l i < lo then utf_Reader_Read.j1 (k + 1) l out i (rd l i) true true p n m lo hi else utf_Reader_Read.j1 (k + 1) l out i (rd l i) (decide (rd l i > hi)) true p n m lo hi) = utf_Reader_Read.l0 k l (out ++ [65533]) i true p n 0 lo hi := by
          by_cases cl : rd l i < lo
          · rw [if_pos cl, hj]
          · rw [if_neg cl, decide_eq_true (by omega), hj]
        rw [hif, e]
        obtain ⟨p2, n2, m2, lo2, hi2, e2, hrep2⟩ := idles k (out ++ [65533]) p n lo hi (by omega) (by rw [List.length_append, List.length_singleton]; omega)
        exact ⟨p2, n2, m2, lo2, hi2, by rw [e2]; simp, hrep2⟩
      · rw [if_neg (by omega), decide_eq_false (by omega)]
        simp only [utf_Reader_Read.j1, Bool.false_eq_true, if_false]; rw [if_pos (by omega)]
        have e6 : Go.bits .or .i32 (wrap32 (p * 64)) (wrap32 (Go.bits .and .u8 (rd l i) 63)) = p * 64 + rd l i % 64 := by
          rw [Go.u8_and63 _ hc.1 (by omega), w32 (n := p * 64) (by omega) (by omega), w32 (by omega) (by omega)]
          exact Go.i32_or6 _ _ (by omega) (by omega) (by omega) (by omega) (by omega)
        rw [e6, w64 (n := n - 1) (by omega) (by omega), w64 (n := i + 1) (by omega) (by omega), w64 (n := m + 1) (by omega) (by omega)]
        by_cases cn : n = 1
        · have e : feed (some (p, n, m, lo, hi)) (rd l i) = ([p * 64 + rd l i % 64], none) := by simp only [feed]; rw [if_neg cb, if_pos cn]
          rw [if_pos (by omega), if_pos (by omega), e]
          obtain ⟨p2, n2, m2, lo2, hi2, e2, hrep2⟩ := ih k (i + 1) (out ++ [p * 64 + rd l i % 64]) none (p * 64 + rd l i % 64) (n - 1) 0 128 191 (by omega) (by omega) rfl (by rw [List.length_append, List.length_singleton]; omega) (by omega)
          exact ⟨p2, n2, m2, lo2, hi2, by rw [e2]; simp, hrep2⟩
        · have e : feed (some (p, n, m, lo, hi)) (rd l i) = ([], some (p * 64 + rd l i % 64, n - 1, m + 1, 128, 191)) := by simp only [feed]; rw [if_neg cb, if_neg cn]
          have hg2 := (step_facts _ (rd l i) hg hc.1 hc.2).1
          rw [e] at hg2
          rw [if_neg (by omega), e]
          obtain ⟨p2, n2, m2, lo2, hi2, e2, hrep2⟩ := ih k (i + 1) out (some (p * 64 + rd l i % 64, n - 1, m + 1, 128, 191)) (p * 64 + rd l i % 64) (n - 1) (m + 1) 128 191 (by omega) (by omega) ⟨rfl, hg2⟩ (by omega) (by omega)
          exact ⟨p2, n2, m2, lo2, hi2, by rw [e2]; simp, hrep2⟩

theorem read_eq (l : List Int) (hl : ∀ c ∈ l, 0 ≤ c ∧ c ≤ 255) (hlen : l.length ≤ 100000) (k : Nat) (s : St) (p n m lo hi : Int) (hr : Rep s p n m lo hi) (hk : 4 * l.length + 10 ≤ k) :
    ∃ p' n' m' lo' hi', utf_Reader_Read.f k true p n m lo hi l = some ((run s l).1, 0, true, p', n', m', lo', hi') ∧ Rep (run s l).2 p' n' m' lo' hi' := by
  simp only [utf_Reader_Read.f, if_true]
  have := read_l0 l hl hlen l.length k 0 [] s p n m lo hi (by omega) (by omega) hr (by simp; omega) hk
  simpa using this

theorem rep_came {s : St} {p n m lo hi : Int} (h : Rep s p n m lo hi) : m = came s := by
  cases s with
  | none => exact h
  | some z => obtain ⟨rfl, _⟩ := h; rfl

/-- What an end tells. -/
def fin : St → List Int
  | none => []
  | some _ => [65533]

theorem end_eq {s : St} {p n m lo hi : Int} (h : Rep s p n m lo hi) : ∃ p' n' lo' hi', utf_Reader_End.f true p n m lo hi = some (fin s, 0, true, p', n', 0, lo', hi') := by
  cases s with
  | none =>
    have hm : m = 0 := h
    subst hm
    simp only [utf_Reader_End.f, if_true, fin]
    exact ⟨_, _, _, _, rfl⟩
  | some z =>
    obtain ⟨rfl, hg⟩ := h
    have hm : ¬ m = 0 := by rcases hg with h | h | h | h | h | h <;> omega
    simp only [utf_Reader_End.f, if_true]; rw [if_neg hm]
    exact ⟨_, _, _, _, rfl⟩

theorem pts_fin (l : List Int) : pts l = (run none l).1 ++ fin (run none l).2 := by
  unfold pts fin; rfl

theorem fin_len (s : St) : (fin s).length ≤ 1 := by cases s <;> simp [fin]

theorem points_eq (l : List Int) (hl : ∀ c ∈ l, 0 ≤ c ∧ c ≤ 255) (hlen : l.length ≤ 100000) (k : Nat) (hk : 4 * l.length + 10 ≤ k) : utf_Points.f k l = some (pts l) := by
  obtain ⟨p, n, m, lo, hi, e, hr⟩ := read_eq l hl hlen k none 0 0 0 0 0 rfl hk
  obtain ⟨p', n', lo', hi', e'⟩ := end_eq hr
  have h1 := run_plain_len l none
  have h2 := fin_len (run none l).2
  simp only [utf_Points.f, utf_New.f, Option.bind_some]; rw [e]
  simp only [Option.bind_some]; rw [e']
  simp only [Option.bind_some]; rw [if_pos (by omega), pts_fin]

theorem same_l0 (a : List Int) (ha : a.length ≤ 10000000) : ∀ (r k : Nat) (i : Int), 0 ≤ i → i + r = a.length → r < k → longlinelaw13_same.l0 k a a i = some true := by
  intro r
  induction r with
  | zero =>
    intro k i h0 h1 hk
    obtain ⟨k, rfl⟩ : ∃ j, k = j + 1 := ⟨k - 1, by omega⟩
    simp only [longlinelaw13_same.l0]; rw [if_neg (by omega)]
  | succ r ih =>
    intro k i h0 h1 hk
    obtain ⟨k, rfl⟩ : ∃ j, k = j + 1 := ⟨k - 1, by omega⟩
    simp only [longlinelaw13_same.l0]; rw [if_pos (by omega), if_pos h0, if_pos (by omega), if_pos trivial, w64 (n := i + 1) (by omega) (by omega)]
    exact ih k (i + 1) (by omega) (by omega) (by omega)
theorem same_eq (a b : List Int) (h : a = b) (ha : a.length ≤ 10000000) (k : Nat) (hk : a.length < k) : longlinelaw13_same.f k a b = some true := by
  subst h
  simp only [longlinelaw13_same.f]; rw [if_pos trivial]
  exact same_l0 a ha a.length k 0 (by omega) (by omega) hk

theorem is_eq (p : Int) : ∃ b, utf_Is.f p = some b ∧ (b = true ↔ isPt p) := by
  simp only [utf_Is.f]; unfold isPt
  (repeat' split) <;> refine ⟨_, rfl, ?_⟩ <;> simp <;> omega

/-- A point's bytes, or those of what is none. -/
def encB (p : Int) : List Int := if 0 ≤ p ∧ p ≤ 1114111 ∧ (p < 55296 ∨ 57343 < p) then enc p else enc 65533

theorem encB_of {p : Int} (h : isPt p) : encB p = enc p := if_pos h
theorem encB_bad {p : Int} (h : ¬ isPt p) : encB p = enc 65533 := if_neg h

theorem encode_eq (p : Int) (h : isPt p) : bytesOf (Go.Utf8.encode p) = enc p := by
  obtain ⟨h0, h1, h2⟩ := h
  obtain ⟨q, rfl⟩ := Int.eq_ofNat_of_zero_le h0
  have hv : Go.Utf8.valid (q : Int) = true := by
    simp only [Go.Utf8.valid, Bool.or_eq_true, Bool.and_eq_true, decide_eq_true_eq]; omega
  unfold Go.Utf8.encode enc
  simp only [hv, if_true, Int.toNat_natCast]
  have cast : ∀ x : Nat, x < 256 → ((UInt8.ofNat x).toNat : Int) = x := by
    intro x hx
    rw [UInt8.toNat_ofNat']
    omega
  by_cases c1 : q < 128
  · rw [if_pos c1, if_pos (show (q : Int) < 128 by omega)]
    simp only [bytesOf, List.map_cons, List.map_nil]
    rw [cast _ (by omega)]
  · rw [if_neg c1, if_neg (show ¬ (q : Int) < 128 by omega)]
    by_cases c2 : q < 2048
    · rw [if_pos c2, if_pos (show (q : Int) < 2048 by omega)]
      simp only [bytesOf, List.map_cons, List.map_nil]
      rw [cast _ (by omega), cast _ (by omega)]
      simp only [List.cons.injEq, and_true]; omega
    · rw [if_neg c2, if_neg (show ¬ (q : Int) < 2048 by omega)]
      by_cases c3 : q < 65536
      · rw [if_pos c3, if_pos (show (q : Int) < 65536 by omega)]
        simp only [bytesOf, List.map_cons, List.map_nil]
        rw [cast _ (by omega), cast _ (by omega), cast _ (by omega)]
        simp only [List.cons.injEq, and_true]; omega
      · rw [if_neg c3, if_neg (show ¬ (q : Int) < 65536 by omega)]
        simp only [bytesOf, List.map_cons, List.map_nil]
        rw [cast _ (by omega), cast _ (by omega), cast _ (by omega), cast _ (by omega)]
        simp only [List.cons.injEq, and_true]; omega

theorem enc_len (p : Int) : (enc p).length ≤ 4 := by unfold enc; (repeat' split) <;> simp

theorem bytes_l0 (l : List Int) (hlen : l.length ≤ 100000) : ∀ (r k : Nat) (i : Int) (out : List Int), 0 ≤ i → i + r = l.length → out.length + 4 * r ≤ 10000000 → r < k →
    utf_Bytes.l0 k out l (l.length : Int) i = some (out ++ (l.drop i.toNat).flatMap encB) := by
  intro r
  induction r with
  | zero =>
    intro k i out h0 h1 ho hk
    obtain ⟨k, rfl⟩ : ∃ j, k = j + 1 := ⟨k - 1, by omega⟩
    have hd : l.drop i.toNat = [] := List.drop_eq_nil_of_le (by omega)
    simp only [utf_Bytes.l0]; rw [if_neg (by omega), hd]; simp
  | succ r ih =>
    intro k i out h0 h1 ho hk
    obtain ⟨k, rfl⟩ : ∃ j, k = j + 1 := ⟨k - 1, by omega⟩
    have hlt : i < (l.length : Int) := by omega
    obtain ⟨b, hb, hbi⟩ := is_eq (rd l i)
    simp only [utf_Bytes.l0]; rw [if_pos hlt, if_pos h0, if_pos hlt, hb, drop_rd h0 hlt, List.flatMap_cons]
    simp only [Option.bind_some]
    have key : ∀ q, isPt q → (if out.length + (Go.Utf8.encode q).size < 140737488355328 then utf_Bytes.l0 k (out ++ bytesOf (Go.Utf8.encode q)) l (l.length : Int) (wrap64 (i + 1)) else none) = some (out ++ (enc q ++ (l.drop (i + 1).toNat).flatMap encB)) := by
      intro q hq
      have hz : (Go.Utf8.encode q).size ≤ 4 := by rw [← bytesOf_length, encode_eq q hq]; exact enc_len q
      have := enc_len q
      rw [if_pos (by omega), encode_eq q hq, w64 (n := i + 1) (by omega) (by omega), ih k (i + 1) _ (by omega) (by omega) (by rw [List.length_append]; omega) (by omega), List.append_assoc]
    by_cases c : b = true
    · rw [if_pos c, key _ (hbi.1 c)]
      rw [encB_of (hbi.1 c)]
    · rw [if_neg c, key _ isPt_bad]
      rw [encB_bad (fun h => c (hbi.2 h))]

theorem bytes_eq (l : List Int) (hlen : l.length ≤ 100000) (k : Nat) (hk : l.length < k) : utf_Bytes.f k l = some (l.flatMap encB) := by
  simp only [utf_Bytes.f]
  have := bytes_l0 l hlen l.length k 0 [] (by omega) (by omega) (by simp; omega) hk
  simpa using this

theorem encB_pts (l : List Int) (h : ∀ p ∈ l, isPt p) : l.flatMap encB = l.flatMap enc := by
  induction l with
  | nil => rfl
  | cons p l ih =>
    rw [List.flatMap_cons, List.flatMap_cons, encB_of (h p (by simp)), ih (fun q hq => h q (by simp [hq]))]

theorem alive_eq {k : Nat} (hk : 40 ≤ k) : longlinelaw13_alive.f k = some true :=
  at_rounds (g := longlinelaw13_alive.f) (fun k => longlinelaw13_alive.mono k) hk (by kernel_rfl)
end Go.Proofs.Ytppkfpjgejognaa.UtfFacts
