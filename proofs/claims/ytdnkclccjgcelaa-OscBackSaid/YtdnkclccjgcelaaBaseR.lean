/- Letters' bytes, in plain lists: where a text goes wrong, what it is read as; the two ways of the walk. -/
import Derived.Test.YtdnkclccjgcelaaQBOx2
import Derived.Test.YtdnkclccjgcelaaBaseW
set_option linter.unusedSimpArgs false
set_option linter.unusedVariables false
namespace Go.Proofs.Ytdnkclccjgcelaa.BaseR
open Go.RowKit Go.Proofs.Ytdnkclccjgcelaa.QBO Go.Proofs.YtdnkclccjgcelaaW.PrintWords Go.Proofs.YtdnkclccjgcelaaW.PrintLast
open Go.Proofs.Ytdnkclccjgcelaa.BaseW
open Go.Proofs.YtdnkclccjgcelaaBW (enc enc4 lett LET)
open Go.Proofs.YtdnkclccjgcelaaBE (val val_idx idx endsL endsT badAt)

def V (c : UInt8) : Int := val c.toNat
theorem V_all : ((List.range 256).all fun n => decide (-1 ≤ idx LET.data.toList n.toUInt8 0) && decide (idx LET.data.toList n.toUInt8 0 < 64) && (decide (idx LET.data.toList n.toUInt8 0 < 0) || lett (idx LET.data.toList n.toUInt8 0) == n.toUInt8) && (n != 61 || idx LET.data.toList n.toUInt8 0 == -1)) = true := by decide +kernel
theorem V_facts (c : UInt8) : -1 ≤ V c ∧ V c < 64 ∧ (0 ≤ V c → lett (V c) = c) ∧ (c = 61 → V c = -1) := by
  have := List.all_eq_true.1 V_all c.toNat (List.mem_range.2 c.toNat_lt)
  have e : V c = idx LET.data.toList c.toNat.toUInt8 0 := by unfold V; rw [val_idx]; simp
  have ec : c.toNat.toUInt8 = c := by simp
  rw [ec] at this e
  rw [← e] at this
  simp only [Bool.and_eq_true, Bool.or_eq_true, decide_eq_true_eq, beq_iff_eq, bne_iff_ne] at this
  obtain ⟨⟨⟨h1, h2⟩, h3⟩, h4⟩ := this
  refine ⟨h1, h2, fun h => ?_, fun h => ?_⟩
  · rcases h3 with h3 | h3
    · omega
    · exact h3
  · rcases h4 with h4 | h4
    · rw [h] at h4; exact absurd rfl h4
    · exact h4
theorem V_lett_all : ((List.range 64).all fun n => idx LET.data.toList (lett (n : Int)) 0 == (n : Int)) = true := by decide +kernel
theorem V_lett (v : Int) (h0 : 0 ≤ v) (h1 : v < 64) : V (lett v) = v := by
  have := List.all_eq_true.1 V_lett_all v.toNat (List.mem_range.2 (by omega))
  rw [beq_iff_eq, Int.toNat_of_nonneg h0] at this
  unfold V
  rw [val_idx]
  simpa using this
theorem lett_ne (v : Int) (h0 : 0 ≤ v) (h1 : v < 64) : lett v ≠ 61 := fun h => by
  have := V_lett v h0 h1
  rw [h, (V_facts 61).2.2.2 rfl] at this
  omega

def e1 (a : UInt8) : Int := if V a < 0 then 0 else -1
def e2 (a b : UInt8) : Int := if V a < 0 then 0 else if V b < 0 then 1 else -1
def e3 (a b c : UInt8) : Int := if V a < 0 then 0 else if V b < 0 then 1 else if (c = 61 ∧ V b % 16 ≠ 0) ∨ (c ≠ 61 ∧ V c < 0) then 2 else -1
def e4 (a b c d : UInt8) : Int := if V a < 0 then 0 else if V b < 0 then 1 else if (c = 61 ∧ V b % 16 ≠ 0) ∨ (c ≠ 61 ∧ V c < 0) then 2 else if (c = 61 ∧ d ≠ 61) ∨ (c ≠ 61 ∧ d ≠ 61 ∧ V d < 0) then 3 else if d = 61 ∧ c ≠ 61 ∧ V c % 4 ≠ 0 then 3 else -1

theorem and_i64 (x m : Int) (j : Nat) (hj : j ≤ 6) (h0 : 0 ≤ x) (h1 : x < 64) (hm : m = 2 ^ j - 1) : bits .and .i64 x m = x % 2 ^ j := by
  subst hm
  exact bits_mask .i64 6 (by decide) (fun n h0 h1 => by rw [IntKind.wrap_i64]; omega) j hj x h0 (by simpa using h1)
theorem and15 (x : Int) (h0 : 0 ≤ x) (h1 : x < 64) : bits .and .i64 x 15 = x % 16 := by simpa using and_i64 x 15 4 (by decide) h0 h1 (by decide)
theorem and3 (x : Int) (h0 : 0 ≤ x) (h1 : x < 64) : bits .and .i64 x 3 = x % 4 := by simpa using and_i64 x 3 2 (by decide) h0 h1 (by decide)
theorem eq61 (c : UInt8) : ((c.toNat : Int) = 61) ↔ c = 61 := by
  constructor
  · intro h
    have : c.toNat = 61 := by omega
    exact UInt8.toNat_inj.1 (by simpa using this)
  · rintro rfl; rfl
theorem bt_get (L : List UInt8) (i : Nat) (h : i < L.length) : bt ⟨L.toArray⟩ (i : Int) = ((L.getD i 0).toNat : Int) := by
  unfold bt
  rw [dif_pos (by rw [ba_size]; omega)]
  simp [List.getD_eq_getElem?_getD, h]
  rfl

theorem ends4 (a b c d : UInt8) : endsL ⟨[a, b, c, d].toArray⟩ 4 0 = e4 a b c d := by
  have s : (⟨[a, b, c, d].toArray⟩ : ByteArray).size = 4 := ba_size _
  have b0 : bt ⟨[a, b, c, d].toArray⟩ 0 = (a.toNat : Int) := bt_get _ 0 (by simp)
  have b1 : bt ⟨[a, b, c, d].toArray⟩ 1 = (b.toNat : Int) := bt_get _ 1 (by simp)
  have b2 : bt ⟨[a, b, c, d].toArray⟩ 2 = (c.toNat : Int) := bt_get _ 2 (by simp)
  have b3 : bt ⟨[a, b, c, d].toArray⟩ 3 = (d.toNat : Int) := bt_get _ 3 (by simp)
  obtain ⟨s', hs'⟩ : ∃ s', s' = (⟨[a, b, c, d].toArray⟩ : ByteArray) := ⟨_, rfl⟩
  rw [← hs'] at s b0 b1 b2 b3 ⊢
  simp only [endsL, s, badAt, endsT, b0, b1, b2, b3, ← show V a = val a.toNat from rfl, ← show V b = val b.toNat from rfl, ← show V c = val c.toNat from rfl, ← show V d = val d.toNat from rfl, eq61]
  simp only [Int.zero_add, Int.reduceAdd, b0, b1, b2, b3, ne_eq, eq61, ← show V a = val a.toNat from rfl, ← show V b = val b.toNat from rfl, ← show V c = val c.toNat from rfl, ← show V d = val d.toNat from rfl]
  have hb := V_facts b
  have hc := V_facts c
  unfold e4
  by_cases ca : V a < 0
  · simp [ca]
  · by_cases cb : V b < 0
    · simp [ca, cb]
    · rw [and15 _ (by omega) hb.2.1]
      by_cases c61 : c = 61
      · simp [ca, cb, c61]
      · by_cases cc : V c < 0
        · simp [ca, cb, c61, cc]
        · rw [and3 _ (by omega) hc.2.1]
          by_cases hd : d = 61 <;> by_cases cd : V d < 0 <;> by_cases h4 : V c % 4 = 0 <;> simp [ca, cb, c61, cc, hd, cd, h4]
theorem ends3 (a b c : UInt8) : endsL ⟨[a, b, c].toArray⟩ 4 0 = e3 a b c := by
  have s : (⟨[a, b, c].toArray⟩ : ByteArray).size = 3 := ba_size _
  have b0 : bt ⟨[a, b, c].toArray⟩ 0 = (a.toNat : Int) := bt_get _ 0 (by simp)
  have b1 : bt ⟨[a, b, c].toArray⟩ 1 = (b.toNat : Int) := bt_get _ 1 (by simp)
  have b2 : bt ⟨[a, b, c].toArray⟩ 2 = (c.toNat : Int) := bt_get _ 2 (by simp)
  obtain ⟨s', hs'⟩ : ∃ s', s' = (⟨[a, b, c].toArray⟩ : ByteArray) := ⟨_, rfl⟩
  rw [← hs'] at s b0 b1 b2 ⊢
  simp only [endsL, s, badAt, endsT, b0, b1, b2, ← show V a = val a.toNat from rfl, ← show V b = val b.toNat from rfl, ← show V c = val c.toNat from rfl, eq61]
  simp only [Int.zero_add, Int.reduceAdd, b0, b1, b2, ne_eq, eq61, ← show V a = val a.toNat from rfl, ← show V b = val b.toNat from rfl, ← show V c = val c.toNat from rfl]
  have hb := V_facts b
  unfold e3
  by_cases ca : V a < 0
  · simp [ca]
  · by_cases cb : V b < 0
    · simp [ca, cb]
    · rw [and15 _ (by omega) hb.2.1]
      by_cases c61 : c = 61
      · simp [ca, cb, c61]
      · by_cases cc : V c < 0 <;> simp [ca, cb, c61, cc]
theorem ends2 (a b : UInt8) : endsL ⟨[a, b].toArray⟩ 4 0 = e2 a b := by
  have s : (⟨[a, b].toArray⟩ : ByteArray).size = 2 := ba_size _
  have b0 : bt ⟨[a, b].toArray⟩ 0 = (a.toNat : Int) := bt_get _ 0 (by simp)
  have b1 : bt ⟨[a, b].toArray⟩ 1 = (b.toNat : Int) := bt_get _ 1 (by simp)
  obtain ⟨s', hs'⟩ : ∃ s', s' = (⟨[a, b].toArray⟩ : ByteArray) := ⟨_, rfl⟩
  rw [← hs'] at s b0 b1 ⊢
  simp only [endsL, s, badAt, endsT, b0, b1, ← show V a = val a.toNat from rfl, ← show V b = val b.toNat from rfl]
  simp only [Int.zero_add, Int.reduceAdd, b0, b1, ne_eq, eq61, ← show V a = val a.toNat from rfl, ← show V b = val b.toNat from rfl]
  unfold e2
  by_cases ca : V a < 0
  · simp [ca]
  · by_cases cb : V b < 0 <;> simp [ca, cb]
theorem ends1 (a : UInt8) : endsL ⟨[a].toArray⟩ 4 0 = e1 a := by
  have s : (⟨[a].toArray⟩ : ByteArray).size = 1 := ba_size _
  have b0 : bt ⟨[a].toArray⟩ 0 = (a.toNat : Int) := bt_get _ 0 (by simp)
  obtain ⟨s', hs'⟩ : ∃ s', s' = (⟨[a].toArray⟩ : ByteArray) := ⟨_, rfl⟩
  rw [← hs'] at s b0 ⊢
  simp only [endsL, s, badAt, endsT, b0, ← show V a = val a.toNat from rfl]
  simp only [Int.zero_add, Int.reduceAdd, b0, ne_eq, eq61, ← show V a = val a.toNat from rfl]
  unfold e1
  by_cases ca : V a < 0 <;> simp [ca]

def fault : List UInt8 → Int
  | [] => -1
  | [a] => if 0 ≤ e1 a then e1 a else 1
  | [a, b] => if 0 ≤ e2 a b then e2 a b else 2
  | [a, b, c] => if 0 ≤ e3 a b c then e3 a b c else 3
  | a :: b :: c :: d :: r => if 0 ≤ e4 a b c d then e4 a b c d else if d = 61 ∧ r ≠ [] then 4 else if 0 ≤ fault r then fault r + 4 else -1

theorem ext_pre (pre l : List UInt8) (e : Nat) : (⟨(pre ++ l).toArray⟩ : ByteArray).extract pre.length e = ⟨(l.take (e - pre.length)).toArray⟩ := by
  apply ByteArray.ext
  simp [ByteArray.data_extract, List.extract_toArray]
theorem ends_f (L : List UInt8) (h : L.length ≤ 4) : base_ends.f ⟨L.toArray⟩ = some (endsL ⟨L.toArray⟩ 4 0) := by
  unfold base_ends.f
  rw [if_pos (by rw [ba_size]; exact h)]

/-- what Fault tells behind 'at' letters -/
def told (at_ : Nat) (f : Int) : Int := if 0 ≤ f then f + at_ else -1
theorem e4_range (a b c d : UInt8) : -1 ≤ e4 a b c d ∧ e4 a b c d ≤ 3 := by
  unfold e4
  repeat' split
  all_goals omega
theorem e3_range (a b c : UInt8) : -1 ≤ e3 a b c ∧ e3 a b c ≤ 2 := by
  unfold e3
  repeat' split
  all_goals omega
theorem e2_range (a b : UInt8) : -1 ≤ e2 a b ∧ e2 a b ≤ 1 := by
  unfold e2
  repeat' split
  all_goals omega
theorem e1_range (a : UInt8) : -1 ≤ e1 a ∧ e1 a ≤ 0 := by
  unfold e1
  repeat' split
  all_goals omega

theorem mn_eq (x y : Int) : mn x y = if y < x then y else x := rfl

theorem fault_l0 (L : List UInt8) (hL : L.length ≤ 1000000000) : ∀ (n : Nat) (l pre : List UInt8) (k : Nat), l.length ≤ n → L = pre ++ l → n + 1 ≤ k → base_Fault.l0 k ⟨L.toArray⟩ pre.length = some (told pre.length (fault l)) := by
  intro n
  induction n with
  | zero =>
    intro l pre k hn hp hk
    obtain rfl : l = [] := List.eq_nil_of_length_eq_zero (by omega)
    obtain ⟨k, rfl⟩ : ∃ j, k = j + 1 := ⟨k - 1, by omega⟩
    simp only [base_Fault.l0]
    rw [ba_size, if_neg (by rw [hp]; simp)]
    rfl
  | succ n ih =>
    intro l pre k hn hp hk
    obtain ⟨k, rfl⟩ : ∃ j, k = j + 1 := ⟨k - 1, by omega⟩
    have hlen : L.length = pre.length + l.length := by rw [hp]; simp
    by_cases h0 : l = []
    · subst h0
      simp only [base_Fault.l0]
      rw [ba_size, if_neg (by rw [hlen]; simp)]
      rfl
    · have hl : 0 < l.length := List.length_pos_iff.2 h0
      have e4' : mn (wrap64 ((pre.length : Int) + 4)) ((⟨L.toArray⟩ : ByteArray).size : Int) = ((min (pre.length + 4) L.length : Nat) : Int) := by
        rw [ba_size, w64 (by omega) (by omega), mn_eq]
        split <;> omega
      have ex : (⟨L.toArray⟩ : ByteArray).extract ((pre.length : Int)).toNat ((min (pre.length + 4) L.length : Nat) : Int).toNat = ⟨(l.take 4).toArray⟩ := by
        rw [Int.toNat_natCast, Int.toNat_natCast, hp, ext_pre]
        congr 2
        rw [List.length_append]
        apply List.take_eq_take_iff.2
        omega
      simp only [base_Fault.l0]
      rw [e4', ex, ba_size, ba_size, ends_f _ (by rw [List.length_take]; omega), Option.bind_some]
      rw [if_pos (by omega), if_pos (by omega), if_pos (by omega), if_pos (by omega)]
      match l, hn, hp, hlen, hl with
      | [a], hn, hp, hlen, hl =>
        rw [show List.take 4 [a] = [a] from rfl, ends1]
        have hr := e1_range a
        have hf : fault [a] = if 0 ≤ e1 a then e1 a else 1 := rfl
        by_cases he : e1 a ≥ 0
        · rw [if_pos he, hf, if_pos he, told, if_pos he, w64 (by omega) (by omega)]
          congr 1; omega
        · rw [if_neg he, if_pos (by simp), hf, if_neg he, told, if_pos (by omega)]
          congr 1; simp at hlen; omega
      | [a, b], hn, hp, hlen, hl =>
        rw [show List.take 4 [a, b] = [a, b] from rfl, ends2]
        have hr := e2_range a b
        have hf : fault [a, b] = if 0 ≤ e2 a b then e2 a b else 2 := rfl
        by_cases he : e2 a b ≥ 0
        · rw [if_pos he, hf, if_pos he, told, if_pos he, w64 (by omega) (by omega)]
          congr 1; omega
        · rw [if_neg he, if_pos (by simp), hf, if_neg he, told, if_pos (by omega)]
          congr 1; simp at hlen; omega
      | [a, b, c], hn, hp, hlen, hl =>
        rw [show List.take 4 [a, b, c] = [a, b, c] from rfl, ends3]
        have hr := e3_range a b c
        have hf : fault [a, b, c] = if 0 ≤ e3 a b c then e3 a b c else 3 := rfl
        by_cases he : e3 a b c ≥ 0
        · rw [if_pos he, hf, if_pos he, told, if_pos he, w64 (by omega) (by omega)]
          congr 1; omega
        · rw [if_neg he, if_pos (by simp), hf, if_neg he, told, if_pos (by omega)]
          congr 1; simp at hlen; omega
      | a :: b :: c :: d :: r, hn, hp, hlen, hl =>
        rw [show List.take 4 (a :: b :: c :: d :: r) = [a, b, c, d] by simp, ends4]
        have hr := e4_range a b c d
        have hf : fault (a :: b :: c :: d :: r) = if 0 ≤ e4 a b c d then e4 a b c d else if d = 61 ∧ r ≠ [] then 4 else if 0 ≤ fault r then fault r + 4 else -1 := by rw [fault]
        have b3 : bt ⟨[a, b, c, d].toArray⟩ 3 = (d.toNat : Int) := bt_get _ 3 (by simp)
        simp only [List.length_cons] at hlen hn
        by_cases he : e4 a b c d ≥ 0
        · rw [if_pos he, hf, if_pos he, told, if_pos he, w64 (by omega) (by omega)]
          congr 1; omega
        · have hrec := ih r (pre ++ [a, b, c, d]) k (by omega) (by rw [hp]; simp) (by omega)
          have hpl : ((pre ++ [a, b, c, d]).length : Int) = (pre.length : Int) + 4 := by simp
          rw [hpl] at hrec
          have hfin : told (pre ++ [a, b, c, d]).length (fault r) = told pre.length (if 0 ≤ fault r then fault r + 4 else -1) := by
            unfold told
            by_cases h : 0 ≤ fault r
            · rw [if_pos h, if_pos h, if_pos (by omega)]; simp; omega
            · rw [if_neg h, if_neg h, if_neg (by omega)]
          rw [hfin] at hrec
          rw [if_neg he, if_neg (by simp), if_pos (by simp), b3, hf, if_neg he, w64 (by omega) (by omega)]
          by_cases hd : d = 61
          · rw [if_pos ((eq61 d).2 hd)]
            by_cases hrr : r = []
            · subst hrr
              simp only [List.length_nil] at hlen
              rw [if_neg (by omega), if_neg (by simp)]
              exact hrec
            · have : 0 < r.length := List.length_pos_iff.2 hrr
              rw [if_pos (by omega), if_pos ⟨hd, hrr⟩, told, if_pos (by omega)]
              congr 1; omega
          · rw [if_neg (fun h => hd ((eq61 d).1 h)), if_neg (fun h => hd h.1)]
            exact hrec

theorem fault_f (L : List UInt8) (hL : L.length ≤ 1000000000) (k : Nat) (hk : L.length + 1 ≤ k) : base_Fault.f k ⟨L.toArray⟩ = some (fault L) := by
  have h := fault_l0 L hL L.length L [] k (Nat.le_refl _) rfl hk
  have hge : -1 ≤ fault L := by
    have : ∀ (n : Nat) (l : List UInt8), l.length ≤ n → -1 ≤ fault l := by
      intro n
      induction n with
      | zero => intro l h; obtain rfl : l = [] := List.eq_nil_of_length_eq_zero (by omega); simp [fault]
      | succ n ih =>
        intro l h
        match l, h with
        | [], _ => simp [fault]
        | [a], _ => have := e1_range a; unfold fault; split <;> omega
        | [a, b], _ => have := e2_range a b; unfold fault; split <;> omega
        | [a, b, c], _ => have := e3_range a b c; unfold fault; split <;> omega
        | a :: b :: c :: d :: r, h =>
          have := e4_range a b c d
          simp only [List.length_cons] at h
          have := ih r (by omega)
          rw [fault]
          repeat' split
          all_goals omega
    exact this _ L (Nat.le_refl _)
  have e : told 0 (fault L) = fault L := by unfold told; split <;> omega
  unfold base_Fault.f
  rw [show (0 : Int) = (([] : List UInt8).length : Int) from rfl, h]
  exact congrArg some e

/-! ### what is read -/
def dec : List UInt8 → List Int
  | a :: b :: c :: d :: r => if c = 61 then [V a * 4 + V b / 16] else if d = 61 then [V a * 4 + V b / 16, V b % 16 * 16 + V c / 4] else (V a * 4 + V b / 16) :: (V b % 16 * 16 + V c / 4) :: (V c % 4 * 64 + V d) :: dec r
  | _ => []

/-- whole letters, or what is last -/
theorem e4_none (a b c d : UInt8) (h : e4 a b c d < 0) : 0 ≤ V a ∧ 0 ≤ V b ∧ ((c = 61 ∧ d = 61 ∧ V b % 16 = 0) ∨ (c ≠ 61 ∧ 0 ≤ V c ∧ d = 61 ∧ V c % 4 = 0) ∨ (c ≠ 61 ∧ 0 ≤ V c ∧ d ≠ 61 ∧ 0 ≤ V d)) := by
  unfold e4 at h
  by_cases ca : V a < 0
  · simp [ca] at h
  · by_cases cb : V b < 0
    · simp [ca, cb] at h
    · refine ⟨by omega, by omega, ?_⟩
      by_cases c61 : c = 61
      · by_cases h1 : V b % 16 = 0 <;> by_cases hd : d = 61 <;> simp [ca, cb, c61, h1, hd] at h ⊢
      · by_cases cc : V c < 0
        · simp [ca, cb, c61, cc] at h
        · by_cases hd : d = 61 <;> by_cases cd : V d < 0 <;> by_cases h4 : V c % 4 = 0 <;> simp [ca, cb, c61, cc, hd, cd, h4] at h ⊢ <;> omega

/-- the four parts of a text that is a text of letters -/
theorem good_cases (l : List UInt8) (h : fault l < 0) (h0 : l ≠ []) : ∃ a b c d r, l = a :: b :: c :: d :: r ∧ e4 a b c d < 0 ∧ (d = 61 → r = []) ∧ fault r < 0 := by
  match l, h, h0 with
  | [a], h, _ => have := e1_range a; unfold fault at h; split at h <;> omega
  | [a, b], h, _ => have := e2_range a b; unfold fault at h; split at h <;> omega
  | [a, b, c], h, _ => have := e3_range a b c; unfold fault at h; split at h <;> omega
  | a :: b :: c :: d :: r, h, _ =>
    rw [fault] at h
    refine ⟨a, b, c, d, r, rfl, ?_, ?_, ?_⟩
    · split at h <;> omega
    · intro hd
      by_cases hr : r = []
      · exact hr
      · exfalso
        split at h
        · omega
        · rw [if_pos ⟨hd, hr⟩] at h; omega
    · repeat' split at h
      all_goals omega

theorem value_f (c : UInt8) : base_value.f (c.toNat : Int) = some (V c) := rfl

theorem or_shift (v x : Int) (hv : 0 ≤ v) (hv2 : v < 262144) (hx : 0 ≤ x) (hx2 : x < 64) : Go.bits .or .u32 ((v * 64) % 4294967296) (x % 4294967296) = v * 64 + x := by
  rw [show v * 64 % 4294967296 = v * 64 by omega, show x % 4294967296 = x by omega]
  exact Go.Proofs.YtdnkclccjgcelaaBW.u32_join _ _ 6 (by omega) (by omega) (by omega) (by omega) (by omega) (by omega)

/-- a round of the inner loop -/
theorem round_let (k : Nat) (L : List UInt8) (out : List Int) (v n : Int) (i : Nat) (c : UInt8) (hi : i < 4) (hL : i < L.length) (hc : L.getD i 0 = c) (hne : c ≠ 61) (hV : 0 ≤ V c) (hv : 0 ≤ v) (hv2 : v < 262144) :
    base_Read.l1 (k + 1) ⟨L.toArray⟩ out v n i = base_Read.l1 k ⟨L.toArray⟩ out (v * 64 + V c) n ((i + 1 : Nat) : Int) := by
  simp only [base_Read.l1]
  rw [if_pos (by omega), if_pos (by omega), ba_size, if_pos (by omega), bt_get L i hL, hc, if_neg (fun h => hne ((eq61 c).1 h)), value_f, Option.bind_some, or_shift v _ hv hv2 hV (V_facts c).2.1, w64 (by omega) (by omega)]
  rfl
theorem round_eq (k : Nat) (L : List UInt8) (out : List Int) (v n : Int) (i : Nat) (hi : i < 4) (hL : i < L.length) (hc : L.getD i 0 = 61) (hv : 0 ≤ v) (hv2 : v < 262144) (hn : 0 ≤ n) (hn2 : n ≤ 3) :
    base_Read.l1 (k + 1) ⟨L.toArray⟩ out v n i = base_Read.l1 k ⟨L.toArray⟩ out (v * 64) (n - 1) ((i + 1 : Nat) : Int) := by
  simp only [base_Read.l1]
  rw [if_pos (by omega), if_pos (by omega), ba_size, if_pos (by omega), bt_get L i hL, hc, if_pos (by rfl), show v * 64 % 4294967296 = v * 64 by omega, w64 (n := n - 1) (by omega) (by omega), w64 (by omega) (by omega)]
  rfl
theorem round_end (k : Nat) (L : List UInt8) (out : List Int) (v n : Int) (hL : 4 ≤ L.length) (hl : L.length ≤ 1000000000) (ho : out.length ≤ 4000000000) (hn : 0 ≤ n) (hn2 : n ≤ 3) :
    base_Read.l1 (k + 1) ⟨L.toArray⟩ out v n 4 = base_Read.l0 k ⟨(L.drop 4).toArray⟩ (out ++ [v / 65536 % 256, v / 256 % 256, v % 256].take n.toNat) := by
  simp only [base_Read.l1]
  have hx : (⟨L.toArray⟩ : ByteArray).extract 4 (⟨L.toArray⟩ : ByteArray).size = ⟨(L.drop 4).toArray⟩ := by
    have e := ext_pre (L.take 4) (L.drop 4) L.length
    rw [List.take_append_drop, List.length_take, Nat.min_eq_left hL] at e
    rw [ba_size, e, List.take_of_length_le (by simp)]
  rw [if_neg (by decide), Option.bind_some, if_pos hn, if_pos (by simp; omega), Option.bind_some, if_pos (by rw [List.length_take]; simp only [List.length_cons, List.length_nil]; omega), hx, ba_size, if_pos (by omega)]

theorem read_l0 : ∀ (n : Nat) (l : List UInt8) (out : List Int) (k : Nat), l.length ≤ n → fault l < 0 → l.length + out.length ≤ 1000000000 → 6 * n + 1 ≤ k → base_Read.l0 k ⟨l.toArray⟩ out = some (out ++ dec l, 0) := by
  intro n
  induction n with
  | zero =>
    intro l out k hn hf hs hk
    obtain rfl : l = [] := List.eq_nil_of_length_eq_zero (by omega)
    obtain ⟨k, rfl⟩ : ∃ j, k = j + 1 := ⟨k - 1, by omega⟩
    simp only [base_Read.l0]
    rw [ba_size, if_neg (by simp)]
    simp [dec]
  | succ n ih =>
    intro l out k hn hf hs hk
    by_cases h0 : l = []
    · exact ih l out k (by rw [h0]; simp) hf hs (by omega)
    · obtain ⟨a, b, c, d, r, rfl, he, hd, hr⟩ := good_cases l hf h0
      obtain ⟨ha, hb, hcd⟩ := e4_none a b c d he
      have fa := V_facts a
      have fb := V_facts b
      have fc := V_facts c
      have fd := V_facts d
      have na : a ≠ 61 := fun h => by have := fa.2.2.2 h; omega
      have nb : b ≠ 61 := fun h => by have := fb.2.2.2 h; omega
      simp only [List.length_cons] at hn hs
      obtain ⟨k, rfl⟩ : ∃ j, k = j + 6 := ⟨k - 6, by omega⟩
      have e0 : base_Read.l0 (k + 6) ⟨(a :: b :: c :: d :: r).toArray⟩ out = base_Read.l1 (k + 5) ⟨(a :: b :: c :: d :: r).toArray⟩ out 0 3 ((0 : Nat) : Int) := by
        simp only [base_Read.l0]
        rw [ba_size, if_pos (by simp; omega)]
        rfl
      rw [e0, round_let (k + 4) _ out 0 3 0 a (by omega) (by simp) rfl na ha (by omega) (by omega), round_let (k + 3) _ out _ 3 1 b (by omega) (by simp) rfl nb hb (by omega) (by omega)]
      rcases hcd with ⟨c61, d61, hm⟩ | ⟨c61, hc, d61, hm⟩ | ⟨c61, hc, d61, hd0⟩
      · have hr0 := hd d61
        subst hr0 c61 d61
        rw [round_eq (k + 2) _ out _ 3 2 (by omega) (by simp) rfl (by omega) (by omega) (by omega) (by omega), round_eq (k + 1) _ out _ _ 3 (by omega) (by simp) rfl (by omega) (by omega) (by omega) (by omega), show ((3 + 1 : Nat) : Int) = 4 from rfl, round_end k _ out _ _ (by simp) (by simp) (by omega) (by omega) (by omega)]
        have := ih [] (out ++ [V a * 4 + V b / 16]) k (by simp) (by simp [fault]) (by simp; omega) (by omega)
        rw [show (3 - 1 - 1 : Int).toNat = 1 from rfl]
        simp only [List.take_succ_cons, List.take_zero, List.drop_succ_cons, List.drop_zero]
        rw [show (((0 * 64 + V a) * 64 + V b) * 64 * 64) / 65536 % 256 = V a * 4 + V b / 16 by omega, this]
        simp [dec]
      · have hr0 := hd d61
        subst hr0 d61
        rw [round_let (k + 2) _ out _ 3 2 c (by omega) (by simp) rfl c61 hc (by omega) (by omega), round_eq (k + 1) _ out _ _ 3 (by omega) (by simp) rfl (by omega) (by omega) (by omega) (by omega), show ((3 + 1 : Nat) : Int) = 4 from rfl, round_end k _ out _ _ (by simp) (by simp) (by omega) (by omega) (by omega)]
        have := ih [] (out ++ [V a * 4 + V b / 16, V b % 16 * 16 + V c / 4]) k (by simp) (by simp [fault]) (by simp; omega) (by omega)
        rw [show (3 - 1 : Int).toNat = 2 from rfl]
        simp only [List.take_succ_cons, List.take_zero, List.drop_succ_cons, List.drop_zero]
        rw [show ((((0 * 64 + V a) * 64 + V b) * 64 + V c) * 64) / 65536 % 256 = V a * 4 + V b / 16 by omega, show ((((0 * 64 + V a) * 64 + V b) * 64 + V c) * 64) / 256 % 256 = V b % 16 * 16 + V c / 4 by omega, this]
        simp [dec, c61]
      · rw [round_let (k + 2) _ out _ 3 2 c (by omega) (by simp) rfl c61 hc (by omega) (by omega), round_let (k + 1) _ out _ _ 3 d (by omega) (by simp) rfl d61 hd0 (by omega) (by omega), show ((3 + 1 : Nat) : Int) = 4 from rfl, round_end k _ out _ _ (by simp) (by simp; omega) (by omega) (by omega) (by omega)]
        have := ih r (out ++ [V a * 4 + V b / 16, V b % 16 * 16 + V c / 4, V c % 4 * 64 + V d]) k (by omega) hr (by simp; omega) (by omega)
        rw [show (3 : Int).toNat = 3 from rfl]
        simp only [List.take_succ_cons, List.take_zero, List.drop_succ_cons, List.drop_zero]
        rw [show ((((0 * 64 + V a) * 64 + V b) * 64 + V c) * 64 + V d) / 65536 % 256 = V a * 4 + V b / 16 by omega, show ((((0 * 64 + V a) * 64 + V b) * 64 + V c) * 64 + V d) / 256 % 256 = V b % 16 * 16 + V c / 4 by omega, show ((((0 * 64 + V a) * 64 + V b) * 64 + V c) * 64 + V d) % 256 = V c % 4 * 64 + V d by omega, this]
        simp [dec, c61, d61]

/-- base.Read, told whole. -/
theorem read_f (L : List UInt8) (hL : L.length ≤ 1000000000) (k : Nat) (hk : 6 * L.length + 1 ≤ k) :
    base_Read.f k ⟨L.toArray⟩ = some (if 90000 < L.length then ([], 2) else if 0 ≤ fault L then ([], 3) else (dec L, 0)) := by
  unfold base_Read.f
  rw [ba_size]
  by_cases h : 90000 < L.length
  · rw [if_pos (by omega), if_pos h]
  · rw [if_neg (by omega), if_neg h, fault_f L hL k (by omega), Option.bind_some]
    by_cases h2 : 0 ≤ fault L
    · rw [if_pos h2, if_pos h2]
    · rw [if_neg h2, if_neg h2, read_l0 L.length L [] k (Nat.le_refl _) (by omega) (by simp; omega) hk]
      simp
end Go.Proofs.Ytdnkclccjgcelaa.BaseR
