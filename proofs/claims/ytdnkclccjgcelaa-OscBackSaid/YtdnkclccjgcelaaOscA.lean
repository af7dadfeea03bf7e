/- What osc reads, in plain lists; the program's way and the document's. -/
import Derived.Test.YtdnkclccjgcelaaQBOx9
import Derived.Test.YtdnkclccjgcelaaQBOx7
import Derived.Test.YtdnkclccjgcelaaBaseD
set_option linter.unusedSimpArgs false
set_option linter.unusedVariables false
namespace Go.Proofs.Ytdnkclccjgcelaa.OscA
open Go.RowKit Go.Proofs.Ytdnkclccjgcelaa.QBO Go.Proofs.YtdnkclccjgcelaaW.PrintWords Go.Proofs.YtdnkclccjgcelaaW.PrintLast
open Go.Proofs.Ytdnkclccjgcelaa.BaseW Go.Proofs.Ytdnkclccjgcelaa.BaseR Go.Proofs.Ytdnkclccjgcelaa.BaseC Go.Proofs.Ytdnkclccjgcelaa.BaseD
open Go.Proofs.YtdnkclccjgcelaaBW (enc)
open Go.Proofs.YtdnkclccjgcelaaBE (idx indexByte_idx)

def within (c : UInt8) : Bool := decide (128 ≤ c.toNat) && decide (c.toNat ≤ 191)
def back (s : List UInt8) : Nat → Nat
  | 0 => 0
  | n + 1 => if within (s.getD (n + 1) 0) = true then back s n else n + 1
def cutL (s : List UInt8) (most : Int) : List UInt8 := if (s.length : Int) ≤ most then s else s.take (back s most.toNat)
theorem back_le (s : List UInt8) : ∀ n, back s n ≤ n
  | 0 => Nat.le_refl 0
  | n + 1 => by unfold back; split; exact Nat.le_succ_of_le (back_le s n); exact Nat.le_refl _

theorem follows_f (c : UInt8) : osc_follows.f (c.toNat : Int) = some (within c) := by
  unfold osc_follows.f within
  by_cases h : 128 ≤ c.toNat
  · rw [if_pos (by omega), decide_eq_true h, Bool.true_and]
    congr 1
    by_cases h2 : c.toNat ≤ 191
    · rw [decide_eq_true h2, decide_eq_true (by omega)]
    · rw [decide_eq_false h2, decide_eq_false (by omega)]
  · rw [if_neg (by omega), decide_eq_false h, Bool.false_and]

theorem ext0 (L : List UInt8) (m : Nat) : (⟨L.toArray⟩ : ByteArray).extract 0 m = ⟨(L.take m).toArray⟩ := by
  have e := ext_pre [] L m
  simpa using e
theorem ext_drop (L : List UInt8) (m : Nat) (hm : m ≤ L.length) : (⟨L.toArray⟩ : ByteArray).extract m (⟨L.toArray⟩ : ByteArray).size = ⟨(L.drop m).toArray⟩ := by
  have e := ext_pre (L.take m) (L.drop m) L.length
  rw [List.take_append_drop, List.length_take, Nat.min_eq_left hm] at e
  rw [ba_size, e, List.take_of_length_le (by simp)]

theorem cut_l0 (L : List UInt8) (hL : L.length ≤ 1000000000) : ∀ (n k : Nat), n < L.length ∨ n = 0 → n + 1 ≤ k → osc_Cut.l0 k ⟨L.toArray⟩ n = some ⟨(L.take (back L n)).toArray⟩ := by
  intro n
  induction n with
  | zero =>
    intro k h hk
    obtain ⟨k, rfl⟩ : ∃ j, k = j + 1 := ⟨k - 1, by omega⟩
    simp only [osc_Cut.l0]
    rw [if_neg (by decide), if_pos (by decide), ba_size, if_pos (by omega), Int.toNat_natCast, ext0]
    rfl
  | succ n ih =>
    intro k h hk
    obtain ⟨k, rfl⟩ : ∃ j, k = j + 1 := ⟨k - 1, by omega⟩
    simp only [osc_Cut.l0]
    rw [if_pos (by omega), if_pos (by omega), ba_size, if_pos (by omega), bt_get L (n + 1) (by omega), follows_f, Option.bind_some, back]
    by_cases hw : within (L.getD (n + 1) 0) = true
    · rw [if_pos hw, if_pos hw, w64 (by omega) (by omega), show ((n + 1 : Nat) : Int) - 1 = (n : Int) by omega]
      exact ih k (by omega) (by omega)
    · rw [if_neg hw, if_neg hw, if_pos (by omega), Int.toNat_natCast, ext0]

theorem cut_f (L : List UInt8) (hL : L.length ≤ 1000000000) (most : Int) (k : Nat) (hk : L.length + 1 ≤ k) : osc_Cut.f k ⟨L.toArray⟩ most = some ⟨(cutL L most).toArray⟩ := by
  unfold osc_Cut.f cutL
  rw [ba_size]
  by_cases h : (L.length : Int) ≤ most
  · rw [if_pos h, if_pos h]
  · rw [if_neg h, if_neg h]
    have e : mx most 0 = ((most.toNat : Nat) : Int) := by
      show (if most < 0 then (0 : Int) else most) = _
      split <;> omega
    rw [e]
    exact cut_l0 L hL _ k (by omega) (by omega)

theorem rcut_l0 (L : List UInt8) (hL : L.length ≤ 1000000000) (most : Nat) (hm : most < L.length) : ∀ (d n k : Nat), n + d = most + 1 → 2 * d + 2 ≤ k →
    longlineref18_Cut.l0 k ⟨L.toArray⟩ most ⟨(if n = 0 then [] else L.take (back L (n - 1))).toArray⟩ n = some ⟨(L.take (back L most)).toArray⟩ := by
  intro d
  induction d with
  | zero =>
    intro n k hn hk
    obtain ⟨k, rfl⟩ : ∃ j, k = j + 2 := ⟨k - 2, by omega⟩
    simp only [longlineref18_Cut.l0, longlineref18_Cut.j1]
    rw [if_neg (by omega), if_neg (by decide), if_neg (by omega), show n - 1 = most by omega]
  | succ d ih =>
    intro n k hn hk
    obtain ⟨k, rfl⟩ : ∃ j, k = j + 2 := ⟨k - 2, by omega⟩
    have hrec := ih (n + 1) k (by omega) (by omega)
    rw [if_neg (by omega), show n + 1 - 1 = n by omega] at hrec
    simp only [longlineref18_Cut.l0, longlineref18_Cut.j1]
    rw [if_pos (by omega), ba_size, decide_eq_true (show (n : Int) < (L.length : Int) by omega), if_pos rfl, if_pos (by omega), if_pos (by omega), bt_get L n (by omega), w64 (by omega) (by omega), show (n : Int) + 1 = ((n + 1 : Nat) : Int) by omega, Int.toNat_natCast, ext0]
    by_cases hw : within (L.getD n 0) = true
    · have hw' := hw
      unfold within at hw'
      rw [Bool.and_eq_true, decide_eq_true_eq, decide_eq_true_eq] at hw'
      rw [if_neg (by omega), if_neg (by omega)]
      have e : (if n = 0 then [] else L.take (back L (n - 1))) = L.take (back L n) := by
        cases n with
        | zero => simp [back]
        | succ m => rw [if_neg (by omega), back, if_pos hw]; rfl
      rw [e]
      exact hrec
    · have hb : back L n = n := by
        cases n with
        | zero => rfl
        | succ m => rw [back, if_neg hw]
      rw [hb] at hrec
      by_cases h1 : ((L.getD n 0).toNat : Int) < 128
      · rw [if_pos h1, if_pos (by omega)]
        exact hrec
      · have : ¬ ((L.getD n 0).toNat ≤ 191) := fun h => hw (by unfold within; rw [decide_eq_true (by omega), decide_eq_true h]; rfl)
        rw [if_neg h1, if_pos (by omega), if_pos (by omega)]
        exact hrec

theorem rcut_f (L : List UInt8) (hL : L.length ≤ 1000000000) (most : Int) (k : Nat) (hk : 2 * L.length + 10 ≤ k) : longlineref18_Cut.f k ⟨L.toArray⟩ most = some ⟨(cutL L most).toArray⟩ := by
  unfold longlineref18_Cut.f cutL
  rw [ba_size]
  by_cases h : (L.length : Int) ≤ most
  · rw [if_pos h, if_pos h]
  · rw [if_neg h, if_neg h]
    by_cases h0 : most < 0
    · obtain ⟨k, rfl⟩ : ∃ j, k = j + 2 := ⟨k - 2, by omega⟩
      simp only [longlineref18_Cut.l0, longlineref18_Cut.j1]
      rw [if_neg (by omega), if_neg (by decide), show most.toNat = 0 by omega]
      rfl
    · obtain ⟨m, rfl⟩ : ∃ m : Nat, most = (m : Int) := ⟨most.toNat, by omega⟩
      have := rcut_l0 L hL m (by omega) (m + 1) 0 k (by omega) (by omega)
      rw [Int.toNat_natCast]
      exact this

/-! ### letters ahead of a clipping -/
def WL : List UInt8 := [99, 112, 115, 113, 48, 49, 50, 51, 52, 53, 54, 55, 56, 57]
def isW (c : UInt8) : Bool := decide (0 ≤ idx WL c 0)
theorem isW_all : ((List.range 256).all fun n => longlineref18_isWhich.f (n : Int) == some (isW n.toUInt8)) = true := by decide +kernel
theorem isWhich_f (c : UInt8) : longlineref18_isWhich.f (c.toNat : Int) = some (isW c) := by
  have := List.all_eq_true.1 isW_all c.toNat (List.mem_range.2 c.toNat_lt)
  rw [beq_iff_eq] at this
  simpa using this
theorem index_f (c : UInt8) : strings_IndexByte.f (⟨#[99, 112, 115, 113, 48, 49, 50, 51, 52, 53, 54, 55, 56, 57]⟩ : ByteArray) (c.toNat : Int) = some (idx WL c 0) := by
  unfold strings_IndexByte.f
  rw [indexByte_idx]
  simp
  rfl
theorem not59 : isW 59 = false := by decide +kernel

/-- what a clipping's letters are read as -/
def readClip (u : List UInt8) : Int × List Int × Int := if 90000 < u.length ∨ 0 ≤ fault u then (0, [], 3) else if 256 < (dec u).length then (0, [], 2) else (2, dec u, 0)
def clipL : List UInt8 → Int × List Int × Int
  | [] => (0, [], 3)
  | c :: u => if isW c = true then clipL u else if c = 59 then readClip u else (0, [], 3)
def outB (r : Int × List Int × Int) : Int × ByteArray × Int := (r.1, strOfNums r.2.1, r.2.2)
theorem str_nil : strOfNums [] = ⟨#[]⟩ := rfl
theorem eq59 (c : UInt8) : ((c.toNat : Int) = 59) ↔ c = 59 := by
  constructor
  · intro h
    have : c.toNat = 59 := by omega
    exact UInt8.toNat_inj.1 (by simpa using this)
  · rintro rfl; rfl

theorem clip_l0 (L : List UInt8) (hL : L.length ≤ 1000000) : ∀ (l pre : List UInt8) (k : Nat), L = pre ++ l → 7 * l.length + 10 ≤ k → osc_clip.l0 k ⟨L.toArray⟩ pre.length = some (outB (clipL l)) := by
  intro l
  induction l with
  | nil =>
    intro pre k hp hk
    obtain ⟨k, rfl⟩ : ∃ j, k = j + 3 := ⟨k - 3, by omega⟩
    have hlen : L.length = pre.length := by rw [hp]; simp
    simp only [osc_clip.l0, osc_clip.j1, osc_clip.j2]
    rw [ba_size, if_neg (by omega), if_pos (by omega), if_pos trivial]
    rfl
  | cons c u ih =>
    intro pre k hp hk
    simp only [List.length_cons] at hk
    obtain ⟨k, rfl⟩ : ∃ j, k = j + 3 := ⟨k - 3, by omega⟩
    have hlen : L.length = pre.length + (u.length + 1) := by rw [hp]; simp
    have hc : L.getD pre.length 0 = c := by rw [hp]; exact getD_pre pre (c :: u) 0
    have hrec := ih (pre ++ [c]) (k + 2) (by rw [hp]; simp) (by omega)
    rw [List.length_append, List.length_singleton] at hrec
    have hj : osc_clip.j1 (k + 2) ⟨L.toArray⟩ (pre.length : Int) = some (outB (if c = 59 then readClip u else (0, [], 3))) := by
      simp only [osc_clip.j1, osc_clip.j2]
      rw [ba_size, if_neg (by omega), if_pos (by omega), if_pos (by omega), bt_get L _ (by omega), hc]
      by_cases h59 : c = 59
      · rw [show ((c.toNat : Int) != 59) = false from bne_eq_false_iff_eq.2 ((eq59 c).2 h59), if_neg (by decide), w64 (by omega) (by omega), if_pos (by omega), if_pos (by omega), if_pos h59]
        have hx := ext_drop L (pre.length + 1) (by omega)
        have hd : L.drop (pre.length + 1) = u := by rw [hp, ← List.drop_drop]; simp
        rw [hd, ba_size] at hx
        rw [show ((pre.length : Int) + 1).toNat = pre.length + 1 by omega, hx, read_f u (by omega) k (by omega), Option.bind_some]
        unfold readClip
        by_cases h9 : 90000 < u.length
        · rw [if_pos h9, if_pos (Or.inl h9), if_neg (by decide)]; rfl
        · rw [if_neg h9]
          by_cases hf : 0 ≤ fault u
          · rw [if_pos hf, if_pos (Or.inr hf), if_neg (by decide)]; rfl
          · rw [if_neg hf, if_pos rfl, if_neg (show ¬ (90000 < u.length ∨ 0 ≤ fault u) by omega)]
            by_cases h2 : 256 < (dec u).length
            · rw [if_pos (show ((dec u, (0 : Int)).1.length : Int) > 256 by show ((dec u).length : Int) > 256; omega), if_pos h2]; rfl
            · rw [if_neg (show ¬ ((dec u, (0 : Int)).1.length : Int) > 256 by show ¬ ((dec u).length : Int) > 256; omega), if_neg h2]; rfl
      · rw [show ((c.toNat : Int) != 59) = true from bne_iff_ne.2 (fun h => h59 ((eq59 c).1 h)), if_pos rfl, if_neg h59]; rfl
    simp only [osc_clip.l0]
    rw [ba_size, if_pos (by omega), if_pos (by omega), bt_get L _ (by omega), hc, index_f, Option.bind_some, clipL]
    by_cases hw : isW c = true
    · have : 0 ≤ idx WL c 0 := of_decide_eq_true hw
      rw [if_neg (by omega), if_pos hw, w64 (by omega) (by omega)]
      exact hrec
    · have : ¬ 0 ≤ idx WL c 0 := fun h => hw (decide_eq_true h)
      rw [if_pos (by omega), if_neg hw]
      exact hj
theorem clip_f (L : List UInt8) (hL : L.length ≤ 1000000) (k : Nat) (hk : 7 * L.length + 10 ≤ k) : osc_clip.f k ⟨L.toArray⟩ = some (outB (clipL L)) := clip_l0 L hL L [] k rfl hk

theorem prefix_f (L p : List UInt8) : strings_HasPrefix.f ⟨L.toArray⟩ ⟨p.toArray⟩ = some (decide (L.take p.length = p)) := by
  unfold strings_HasPrefix.f stringslite_HasPrefix.f
  rw [ba_size, ba_size]
  by_cases h : (L.length : Int) ≥ (p.length : Int)
  · rw [if_pos h, if_pos (by omega), if_pos (by omega), Option.bind_some, Int.toNat_natCast, ext0, ba_toList, ba_toList]
    congr 1
    by_cases e : L.take p.length = p
    · rw [decide_eq_true e, e]; exact beq_iff_eq.2 rfl
    · rw [decide_eq_false e]; exact beq_eq_false_iff_ne.2 e
  · rw [if_neg h, Option.bind_some, decide_eq_false]
    intro e
    have : (L.take p.length).length = p.length := by rw [e]
    rw [List.length_take] at this
    omega

/-- what a text asks for -/
def readO (L : List UInt8) : Int × ByteArray × Int :=
  if L.take 2 = [48, 59] ∨ L.take 2 = [50, 59] then (1, ⟨(cutL (L.drop 2) 64).toArray⟩, 0) else if L.take 3 = [53, 50, 59] then outB (clipL (L.drop 3)) else (0, ⟨#[]⟩, 4)
theorem read_j0 (L : List UInt8) (hL : L.length ≤ 1000000) (k : Nat) (hk : 7 * L.length + 11 ≤ k) (b : Bool) (hb : b = true → 2 ≤ L.length) : osc_Read.j0 k ⟨L.toArray⟩ b = some (if b = true then (1, ⟨(cutL (L.drop 2) 64).toArray⟩, 0) else if L.take 3 = [53, 50, 59] then outB (clipL (L.drop 3)) else (0, ⟨#[]⟩, 4)) := by
  obtain ⟨k, rfl⟩ : ∃ j, k = j + 1 := ⟨k - 1, by omega⟩
  simp only [osc_Read.j0]
  by_cases h : b = true
  · have h2 := hb h
    have hx := ext_drop L 2 h2
    rw [if_pos h, ba_size, if_pos (by omega), if_pos h]
    rw [ba_size] at hx
    rw [hx, cut_f (L.drop 2) (by rw [List.length_drop]; omega) 64 k (by rw [List.length_drop]; omega), Option.bind_some]
  · rw [if_neg h, if_neg h, show (⟨#[53, 50, 59]⟩ : ByteArray) = ⟨([53, 50, 59] : List UInt8).toArray⟩ from rfl, prefix_f, Option.bind_some, show ([53, 50, 59] : List UInt8).length = 3 from rfl]
    by_cases h3 : L.take 3 = [53, 50, 59]
    · have hl : 3 ≤ L.length := by
        have : (L.take 3).length = 3 := by rw [h3]; rfl
        rw [List.length_take] at this
        omega
      have hx := ext_drop L 3 hl
      rw [ba_size] at hx
      rw [if_pos (decide_eq_true h3), ba_size, if_pos (by omega), if_pos h3, hx, clip_f (L.drop 3) (by rw [List.length_drop]; omega) k (by rw [List.length_drop]; omega), Option.bind_some]
    · rw [if_neg (by simpa using h3), if_neg h3]
theorem oread_f (L : List UInt8) (hL : L.length ≤ 1000000) (k : Nat) (hk : 7 * L.length + 11 ≤ k) : osc_Read.f k ⟨L.toArray⟩ = some (readO L) := by
  have hlen : ∀ p : List UInt8, p.length = 2 → L.take 2 = p → 2 ≤ L.length := fun p hp h => by
    have : (L.take 2).length = 2 := by rw [h, hp]
    rw [List.length_take] at this
    omega
  unfold osc_Read.f readO
  rw [show (⟨#[48, 59]⟩ : ByteArray) = ⟨([48, 59] : List UInt8).toArray⟩ from rfl, prefix_f, Option.bind_some, show ([48, 59] : List UInt8).length = 2 from rfl]
  by_cases h0 : L.take 2 = [48, 59]
  · rw [if_pos (decide_eq_true h0), if_pos (Or.inl h0), read_j0 L hL k hk true (fun _ => hlen _ rfl h0), if_pos rfl]
  · rw [if_neg (by simpa using h0), show (⟨#[50, 59]⟩ : ByteArray) = ⟨([50, 59] : List UInt8).toArray⟩ from rfl, prefix_f, Option.bind_some, show ([50, 59] : List UInt8).length = 2 from rfl, read_j0 L hL k hk _ (fun h => hlen _ rfl (of_decide_eq_true h))]
    by_cases h2 : L.take 2 = [50, 59]
    · rw [decide_eq_true h2, if_pos rfl, if_pos (Or.inr h2)]
    · rw [decide_eq_false h2, if_neg (by decide), if_neg (show ¬ (L.take 2 = [48, 59] ∨ L.take 2 = [50, 59]) from fun h => h.elim h0 h2)]
end Go.Proofs.Ytdnkclccjgcelaa.OscA
