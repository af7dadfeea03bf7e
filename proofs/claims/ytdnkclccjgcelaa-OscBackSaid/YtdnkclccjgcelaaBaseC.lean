/- Bytes' letters and letters' bytes: there and back; what is cut. -/
import Derived.Test.YtdnkclccjgcelaaBaseR
set_option linter.unusedSimpArgs false
set_option linter.unusedVariables false
namespace Go.Proofs.Ytdnkclccjgcelaa.BaseC
open Go.RowKit Go.Proofs.Ytdnkclccjgcelaa.QBO Go.Proofs.YtdnkclccjgcelaaW.PrintWords Go.Proofs.YtdnkclccjgcelaaW.PrintLast
open Go.Proofs.Ytdnkclccjgcelaa.BaseW Go.Proofs.Ytdnkclccjgcelaa.BaseR
open Go.Proofs.YtdnkclccjgcelaaBW (enc enc4 lett LET)

def Bytes (b : List Int) : Prop := ∀ x ∈ b, 0 ≤ x ∧ x < 256

/-- four letters in a row -/
theorem e4_letters (v w x y : Int) (hv : 0 ≤ v ∧ v < 64) (hw : 0 ≤ w ∧ w < 64) (hx : 0 ≤ x ∧ x < 64) (hy : 0 ≤ y ∧ y < 64) : e4 (lett v) (lett w) (lett x) (lett y) = -1 := by
  unfold e4
  rw [V_lett v hv.1 hv.2, V_lett w hw.1 hw.2, V_lett x hx.1 hx.2, V_lett y hy.1 hy.2]
  have := lett_ne x hx.1 hx.2
  have := lett_ne y hy.1 hy.2
  rw [if_neg (by omega), if_neg (by omega), if_neg (by first | (simp [*]; done) | (simp [*]; omega)), if_neg (by first | (simp [*]; done) | (simp [*]; omega)), if_neg (by simp [*])]

theorem enc3 (a b c : Int) (r : List Int) : enc (a :: b :: c :: r) = lett ((a * 65536 + b * 256 + c) / 262144 % 64) :: lett ((a * 65536 + b * 256 + c) / 4096 % 64) :: lett ((a * 65536 + b * 256 + c) / 64 % 64) :: lett ((a * 65536 + b * 256 + c) % 64) :: enc r := by
  simp [enc, enc4]
theorem enc2 (a b : Int) : enc [a, b] = [lett ((a * 65536 + b * 256) / 262144 % 64), lett ((a * 65536 + b * 256) / 4096 % 64), lett ((a * 65536 + b * 256) / 64 % 64), 61] := by
  simp [enc, enc4]
theorem enc1 (a : Int) : enc [a] = [lett (a * 65536 / 262144 % 64), lett (a * 65536 / 4096 % 64), 61, 61] := by
  simp [enc, enc4]

theorem enc_good (n : Nat) : ∀ b : List Int, b.length ≤ n → Bytes b → fault (enc b) = -1 ∧ dec (enc b) = b := by
  induction n with
  | zero =>
    intro b h hb
    obtain rfl : b = [] := List.eq_nil_of_length_eq_zero (by omega)
    exact ⟨rfl, rfl⟩
  | succ n ih =>
    intro b h hb
    match b, h, hb with
    | [], h, hb => exact ⟨rfl, rfl⟩
    | [a], h, hb =>
      have ha := hb a (by simp)
      rw [enc1]
      have v1 := V_lett (a * 65536 / 262144 % 64) (by omega) (by omega)
      have v2 := V_lett (a * 65536 / 4096 % 64) (by omega) (by omega)
      have he : e4 (lett (a * 65536 / 262144 % 64)) (lett (a * 65536 / 4096 % 64)) 61 61 = -1 := by
        unfold e4
        rw [v1, v2, if_neg (by omega), if_neg (by omega), if_neg (by simp; omega), if_neg (by simp), if_neg (by simp)]
      constructor
      · rw [fault, he]; simp [fault]
      · rw [dec, v1, v2, if_pos rfl]
        congr 1
        omega
    | [a, b], h, hb =>
      have ha := hb a (by simp)
      have hb' := hb b (by simp)
      rw [enc2]
      have v1 := V_lett ((a * 65536 + b * 256) / 262144 % 64) (by omega) (by omega)
      have v2 := V_lett ((a * 65536 + b * 256) / 4096 % 64) (by omega) (by omega)
      have v3 := V_lett ((a * 65536 + b * 256) / 64 % 64) (by omega) (by omega)
      have n3 := lett_ne ((a * 65536 + b * 256) / 64 % 64) (by omega) (by omega)
      have he : e4 (lett ((a * 65536 + b * 256) / 262144 % 64)) (lett ((a * 65536 + b * 256) / 4096 % 64)) (lett ((a * 65536 + b * 256) / 64 % 64)) 61 = -1 := by
        unfold e4
        rw [v1, v2, v3, if_neg (by omega), if_neg (by omega), if_neg (by simp [n3]; omega), if_neg (by simp [n3]), if_neg (by simp [n3]; omega)]
      constructor
      · rw [fault, he]; simp [fault]
      · rw [dec, v1, v2, v3, if_neg n3, if_pos rfl]
        congr 1
        · omega
        · congr 1
          omega
    | a :: b :: c :: r, h, hb =>
      have ha := hb a (by simp)
      have hb' := hb b (by simp)
      have hc := hb c (by simp)
      rw [enc3]
      have v1 := V_lett ((a * 65536 + b * 256 + c) / 262144 % 64) (by omega) (by omega)
      have v2 := V_lett ((a * 65536 + b * 256 + c) / 4096 % 64) (by omega) (by omega)
      have v3 := V_lett ((a * 65536 + b * 256 + c) / 64 % 64) (by omega) (by omega)
      have v4 := V_lett ((a * 65536 + b * 256 + c) % 64) (by omega) (by omega)
      have n3 := lett_ne ((a * 65536 + b * 256 + c) / 64 % 64) (by omega) (by omega)
      have n4 := lett_ne ((a * 65536 + b * 256 + c) % 64) (by omega) (by omega)
      have he := e4_letters ((a * 65536 + b * 256 + c) / 262144 % 64) ((a * 65536 + b * 256 + c) / 4096 % 64) ((a * 65536 + b * 256 + c) / 64 % 64) ((a * 65536 + b * 256 + c) % 64) (by omega) (by omega) (by omega) (by omega)
      simp only [List.length_cons] at h
      obtain ⟨i1, i2⟩ := ih r (by omega) (fun x hx => hb x (by simp [hx]))
      constructor
      · rw [fault, he, i1]
        rw [if_neg (by decide), if_neg (fun z => n4 z.1), if_neg (by decide)]
      · rw [dec, v1, v2, v3, v4, if_neg n3, if_neg n4, i2]
        congr 1
        · omega
        · congr 1
          · omega
          · congr 1
            omega

theorem dec_good (n : Nat) : ∀ l : List UInt8, l.length ≤ n → fault l < 0 → enc (dec l) = l ∧ Bytes (dec l) ∧ (dec l).length ≤ l.length := by
  induction n with
  | zero =>
    intro l h hf
    obtain rfl : l = [] := List.eq_nil_of_length_eq_zero (by omega)
    exact ⟨rfl, fun x hx => by simp [dec] at hx, by simp [dec]⟩
  | succ n ih =>
    intro l h hf
    by_cases h0 : l = []
    · subst h0
      exact ⟨rfl, fun x hx => by simp [dec] at hx, by simp [dec]⟩
    · obtain ⟨a, b, c, d, r, rfl, he, hd, hr⟩ := good_cases l hf h0
      obtain ⟨ha, hb, hcd⟩ := e4_none a b c d he
      have fa := V_facts a
      have fb := V_facts b
      have fc := V_facts c
      have fd := V_facts d
      simp only [List.length_cons] at h
      rcases hcd with ⟨c61, d61, hm⟩ | ⟨c61, hc, d61, hm⟩ | ⟨c61, hc, d61, hd0⟩
      · have hr0 := hd d61
        subst hr0 c61 d61
        rw [dec, if_pos rfl]
        refine ⟨?_, ?_, by simp⟩
        · rw [enc1, show (V a * 4 + V b / 16) * 65536 / 262144 % 64 = V a by omega, show (V a * 4 + V b / 16) * 65536 / 4096 % 64 = V b by omega, fa.2.2.1 ha, fb.2.2.1 hb]
        · intro x hx
          simp at hx
          omega
      · have hr0 := hd d61
        subst hr0 d61
        rw [dec, if_neg c61, if_pos rfl]
        refine ⟨?_, ?_, by simp⟩
        · rw [enc2, show ((V a * 4 + V b / 16) * 65536 + (V b % 16 * 16 + V c / 4) * 256) / 262144 % 64 = V a by omega, show ((V a * 4 + V b / 16) * 65536 + (V b % 16 * 16 + V c / 4) * 256) / 4096 % 64 = V b by omega, show ((V a * 4 + V b / 16) * 65536 + (V b % 16 * 16 + V c / 4) * 256) / 64 % 64 = V c by omega, fa.2.2.1 ha, fb.2.2.1 hb, fc.2.2.1 hc]
        · intro x hx
          simp at hx
          omega
      · obtain ⟨i1, i2, i3⟩ := ih r (by omega) hr
        rw [dec, if_neg c61, if_neg d61]
        refine ⟨?_, ?_, by simp; omega⟩
        · rw [enc3, show ((V a * 4 + V b / 16) * 65536 + (V b % 16 * 16 + V c / 4) * 256 + (V c % 4 * 64 + V d)) / 262144 % 64 = V a by omega, show ((V a * 4 + V b / 16) * 65536 + (V b % 16 * 16 + V c / 4) * 256 + (V c % 4 * 64 + V d)) / 4096 % 64 = V b by omega, show ((V a * 4 + V b / 16) * 65536 + (V b % 16 * 16 + V c / 4) * 256 + (V c % 4 * 64 + V d)) / 64 % 64 = V c by omega, show ((V a * 4 + V b / 16) * 65536 + (V b % 16 * 16 + V c / 4) * 256 + (V c % 4 * 64 + V d)) % 64 = V d by omega, fa.2.2.1 ha, fb.2.2.1 hb, fc.2.2.1 hc, fd.2.2.1 hd0, i1]
        · intro x hx
          simp only [List.mem_cons] at hx
          rcases hx with h | h | h | h
          · omega
          · omega
          · omega
          · exact i2 x h

theorem enc_append (n : Nat) : ∀ b c : List Int, b.length ≤ n → b.length % 3 = 0 → enc (b ++ c) = enc b ++ enc c := by
  induction n with
  | zero =>
    intro b c h hb
    obtain rfl : b = [] := List.eq_nil_of_length_eq_zero (by omega)
    rfl
  | succ n ih =>
    intro b c h h3
    match b, h, h3 with
    | [], h, h3 => rfl
    | [a], h, h3 => simp at h3
    | [a, b], h, h3 => simp at h3
    | x :: y :: z :: r, h, h3 =>
      simp only [List.length_cons] at h h3
      rw [List.cons_append, List.cons_append, List.cons_append, enc3, enc3, ih r c (by omega) (by omega)]
      rfl

/-- what is cut off whole letters -/
theorem cut_fault (n : Nat) : ∀ (b : List Int) (m : Nat), b.length ≤ n → Bytes b → m ≤ b.length / 3 * 4 → (m % 4 = 0 → fault ((enc b).take m) = -1 ∧ dec ((enc b).take m) = b.take (m / 4 * 3)) ∧ (m % 4 ≠ 0 → fault ((enc b).take m) = m) := by
  induction n with
  | zero =>
    intro b m h hb hm
    obtain rfl : b = [] := List.eq_nil_of_length_eq_zero (by omega)
    obtain rfl : m = 0 := by simpa using hm
    exact ⟨fun _ => ⟨rfl, rfl⟩, fun h => absurd rfl h⟩
  | succ n ih =>
    intro b m h hb hm
    by_cases hm0 : m = 0
    · subst hm0
      exact ⟨fun _ => ⟨rfl, rfl⟩, fun h => absurd rfl h⟩
    · match b, h, hb, hm with
      | [], h, hb, hm => simp at hm; omega
      | [a], h, hb, hm => simp at hm; omega
      | [a, b], h, hb, hm => simp at hm; omega
      | a :: b :: c :: r, h, hb, hm =>
        have ha := hb a (by simp)
        have hb' := hb b (by simp)
        have hc := hb c (by simp)
        rw [enc3]
        have v1 := V_lett ((a * 65536 + b * 256 + c) / 262144 % 64) (by omega) (by omega)
        have v2 := V_lett ((a * 65536 + b * 256 + c) / 4096 % 64) (by omega) (by omega)
        have v3 := V_lett ((a * 65536 + b * 256 + c) / 64 % 64) (by omega) (by omega)
        have v4 := V_lett ((a * 65536 + b * 256 + c) % 64) (by omega) (by omega)
        have n3 := lett_ne ((a * 65536 + b * 256 + c) / 64 % 64) (by omega) (by omega)
        have n4 := lett_ne ((a * 65536 + b * 256 + c) % 64) (by omega) (by omega)
        have he := e4_letters ((a * 65536 + b * 256 + c) / 262144 % 64) ((a * 65536 + b * 256 + c) / 4096 % 64) ((a * 65536 + b * 256 + c) / 64 % 64) ((a * 65536 + b * 256 + c) % 64) (by omega) (by omega) (by omega) (by omega)
        simp only [List.length_cons] at h hm
        have hm2 : m = 1 ∨ m = 2 ∨ m = 3 ∨ ∃ j, m = j + 4 := by
          by_cases h4 : m < 4
          · omega
          · exact Or.inr (Or.inr (Or.inr ⟨m - 4, by omega⟩))
        rcases hm2 with rfl | rfl | rfl | ⟨j, rfl⟩
        · refine ⟨fun h => by simp at h, fun _ => ?_⟩
          simp only [List.take_succ_cons, List.take_zero]
          have h1 : e1 (lett ((a * 65536 + b * 256 + c) / 262144 % 64)) = -1 := by unfold e1; rw [v1, if_neg (by omega)]
          rw [fault, h1]
          rfl
        · refine ⟨fun h => by simp at h, fun _ => ?_⟩
          simp only [List.take_succ_cons, List.take_zero]
          have h1 : e2 (lett ((a * 65536 + b * 256 + c) / 262144 % 64)) (lett ((a * 65536 + b * 256 + c) / 4096 % 64)) = -1 := by unfold e2; rw [v1, v2, if_neg (by omega), if_neg (by omega)]
          rw [fault, h1]
          rfl
        · refine ⟨fun h => by simp at h, fun _ => ?_⟩
          simp only [List.take_succ_cons, List.take_zero]
          have h1 : e3 (lett ((a * 65536 + b * 256 + c) / 262144 % 64)) (lett ((a * 65536 + b * 256 + c) / 4096 % 64)) (lett ((a * 65536 + b * 256 + c) / 64 % 64)) = -1 := by unfold e3; rw [v1, v2, v3, if_neg (by omega), if_neg (by omega), if_neg (by simp [n3]; omega)]
          rw [fault, h1]
          rfl
        · obtain ⟨i1, i2⟩ := ih r j (by omega) (fun x hx => hb x (by simp [hx])) (by omega)
          simp only [List.take_succ_cons]
          constructor
          · intro h4
            obtain ⟨j1, j2⟩ := i1 (by omega)
            constructor
            · rw [fault, he, j1, if_neg (by decide), if_neg (fun z => n4 z.1), if_neg (by decide)]
            · rw [dec, v1, v2, v3, v4, if_neg n3, if_neg n4, j2, show (j + 4) / 4 * 3 = j / 4 * 3 + 3 by omega]
              simp only [List.take_succ_cons]
              congr 1
              · omega
              · congr 1
                · omega
                · congr 1
                  omega
          · intro h4
            have j2 := i2 (by omega)
            rw [fault, he, j2, if_neg (by decide), if_neg (fun z => n4 z.1), if_pos (by omega)]
            omega
end Go.Proofs.Ytdnkclccjgcelaa.BaseC
