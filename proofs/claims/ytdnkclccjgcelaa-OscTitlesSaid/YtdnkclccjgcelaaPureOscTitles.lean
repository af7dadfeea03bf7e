import Derived.Test.YtdnkclccjgcelaaQBOx10
import Derived.Test.YtdnkclccjgcelaaOscB
import Derived.OpenShut
namespace Go.Proofs.Ytdnkclccjgcelaa.Pure
open Go.RowKit Go.Proofs.Ytdnkclccjgcelaa.QBO Go.Proofs.YtdnkclccjgcelaaW.PrintWords Go.Proofs.YtdnkclccjgcelaaW.PrintLast
open Go.Proofs.Ytdnkclccjgcelaa.BaseW Go.Proofs.Ytdnkclccjgcelaa.BaseR Go.Proofs.Ytdnkclccjgcelaa.BaseC Go.Proofs.Ytdnkclccjgcelaa.BaseD Go.Proofs.Ytdnkclccjgcelaa.OscA Go.Proofs.Ytdnkclccjgcelaa.OscB

theorem clip_skip : ∀ (ls u : List UInt8), (∀ c ∈ ls, isW c = true) → clipL (ls ++ 59 :: u) = readClip u
  | [], u, _ => by rw [List.nil_append, clipL, if_neg (by rw [not59]; decide), if_pos rfl]
  | c :: ls, u, h => by rw [List.cons_append, clipL, if_pos (h c (by simp))]; exact clip_skip ls u (fun d hd => h d (by simp [hd]))
theorem readO_52 (t : List UInt8) : readO (53 :: 50 :: 59 :: t) = outB (clipL t) := by
  unfold readO
  rw [if_neg (by simp), if_pos (by simp)]
  rfl
theorem isW_WL : ∀ c ∈ WL, isW c = true := by decide +kernel

theorem lets (k : Nat) (hk : 100000 ≤ k) (L : List UInt8) (hL : L.length ≤ 1000) (l1 : List Int) (hl1 : l1.length ≤ 20) (hb : Bytes l1) :
    ∀ (d i j : Nat) (x9 : List UInt8), i + d = l1.length → x9.length = i → (∀ c ∈ x9, isW c = true) → k + d + 1 ≤ j → longlinelaw18_OscTitles.l0 j ⟨L.toArray⟩ l1 ⟨x9.toArray⟩ i = some true := by
  intro d
  induction d with
  | zero =>
    intro i j x9 hi hx hw hj
    obtain ⟨j, rfl⟩ : ∃ m, j = m + 1 := ⟨j - 1, by omega⟩
    simp only [longlinelaw18_OscTitles.l0]
    have e1 : (⟨#[53, 50, 59]⟩ : ByteArray) ++ (⟨x9.toArray⟩ : ByteArray) = ⟨([53, 50, 59] ++ x9).toArray⟩ := ba_append [53, 50, 59] x9
    have e2 : (⟨([53, 50, 59] ++ x9).toArray⟩ : ByteArray) ++ (⟨#[59]⟩ : ByteArray) = ⟨([53, 50, 59] ++ x9 ++ [59]).toArray⟩ := ba_append ([53, 50, 59] ++ x9) [59]
    have e3 : (⟨#[53, 50, 59, 59]⟩ : ByteArray) ++ (⟨L.toArray⟩ : ByteArray) = ⟨([53, 50, 59, 59] ++ L).toArray⟩ := ba_append [53, 50, 59, 59] L
    have h1 : [53, 50, 59] ++ x9 ++ [59] ++ L = 53 :: 50 :: 59 :: (x9 ++ 59 :: L) := by simp
    have h2 : [53, 50, 59, 59] ++ L = 53 :: 50 :: 59 :: ([] ++ 59 :: L) := by simp
    rw [if_neg (by omega), e1, e2, ba_append, e3, ba_size, ba_size, ba_size, ba_size, if_pos (by omega), if_pos (by simp; omega), if_pos (by simp; omega), h1, h2, oread_f _ (by simp; omega) j (by simp; omega), Option.bind_some, if_pos (by omega), oread_f _ (by simp; omega) j (by simp; omega), Option.bind_some, alive_f j (by omega), Option.bind_some, if_pos rfl, readO_52, readO_52, clip_skip x9 L hw, clip_skip [] L (fun c hc => by simp at hc)]
    rw [if_pos (by rw [Bool.and_eq_true]; exact ⟨beq_iff_eq.2 rfl, beq_iff_eq.2 rfl⟩)]
    congr 1
    exact beq_iff_eq.2 rfl
  | succ d ih =>
    intro i j x9 hi hx hw hj
    obtain ⟨j, rfl⟩ : ∃ m, j = m + 1 := ⟨j - 1, by omega⟩
    have hr := Go.Proofs.YtdnkclccjgcelaaBW.getD_byte l1 hb i
    obtain ⟨x, hx0⟩ : ∃ x, x = l1.getD i 0 := ⟨_, rfl⟩
    rw [← hx0] at hr
    have e0 : Int.tmod (wrap64 (rd l1 (i : Int))) 14 = ((x.toNat % 14 : Nat) : Int) := by
      unfold rd
      rw [Int.toNat_natCast, ← hx0, w64 (by omega) (by omega), Int.tmod_eq_emod_of_nonneg hr.1]
      omega
    obtain ⟨m, hm⟩ : ∃ m, m = x.toNat % 14 := ⟨_, rfl⟩
    rw [← hm] at e0
    have hm14 : m < 14 := by omega
    have ex : (⟨#[99, 112, 115, 113, 48, 49, 50, 51, 52, 53, 54, 55, 56, 57]⟩ : ByteArray).extract ((m : Int)).toNat (((m : Int) + 1)).toNat = ⟨[WL.getD m 0].toArray⟩ := by
      obtain rfl | rfl | rfl | rfl | rfl | rfl | rfl | rfl | rfl | rfl | rfl | rfl | rfl | rfl : m = 0 ∨ m = 1 ∨ m = 2 ∨ m = 3 ∨ m = 4 ∨ m = 5 ∨ m = 6 ∨ m = 7 ∨ m = 8 ∨ m = 9 ∨ m = 10 ∨ m = 11 ∨ m = 12 ∨ m = 13 := by omega
      all_goals rfl
    have hmem : WL.getD m 0 ∈ WL := by
      rw [List.getD_eq_getElem?_getD, List.getElem?_eq_getElem (show m < WL.length from hm14)]
      exact List.getElem_mem _
    simp only [longlinelaw18_OscTitles.l0]
    rw [if_pos (by omega), if_pos (by omega), e0, if_pos (by omega), w64 (n := (m : Int) + 1) (by omega) (by omega), if_pos (by omega), if_pos (by omega), ex, ba_size, ba_size, if_pos (by simp; omega), ba_append, w64 (by omega) (by omega)]
    exact ih (i + 1) j (x9 ++ [WL.getD m 0]) (by omega) (by simp; omega) (fun c hc => by
      rcases List.mem_append.1 hc with h | h
      · exact hw c h
      · simp only [List.mem_singleton] at h; rw [h]; exact isW_WL _ hmem) (by omega)

theorem OscTitles : longlinelaw18_OscTitles.Pure := by
  intro a0 l1 _ _ _ hw1
  have hb : Bytes l1 := fun x hx => by have := bounds_u8 (hw1 x hx); omega
  obtain ⟨L, hL⟩ : ∃ L : List UInt8, L = a0.data.toList := ⟨_, rfl⟩
  have ha : a0 = ⟨L.toArray⟩ := by rw [hL, ba_eta]
  rw [ha]
  obtain ⟨K, hK⟩ : ∃ K : Nat, K = 200000 := ⟨_, rfl⟩
  have skip : longlinelaw18_OscTitles.j0 (K + 2) ⟨L.toArray⟩ l1 true = some true := by
    simp only [longlinelaw18_OscTitles.j0]
    rw [if_pos trivial, alive_f _ (by omega), Option.bind_some]
  refine ⟨K + 2, ?_⟩
  unfold longlinelaw18_OscTitles.f
  rw [ba_size]
  by_cases h0 : (L.length : Int) > 1000
  · rw [if_pos h0]; exact skip
  · rw [if_neg h0]
    by_cases h1 : (l1.length : Int) > 20
    · rw [decide_eq_true h1]; exact skip
    · rw [decide_eq_false h1]
      simp only [longlinelaw18_OscTitles.j0]
      have e1 : (⟨#[48, 59]⟩ : ByteArray) ++ (⟨L.toArray⟩ : ByteArray) = ⟨(48 :: 59 :: L).toArray⟩ := ba_append [48, 59] L
      have e2 : (⟨#[50, 59]⟩ : ByteArray) ++ (⟨L.toArray⟩ : ByteArray) = ⟨(50 :: 59 :: L).toArray⟩ := ba_append [50, 59] L
      have r1 : readO (48 :: 59 :: L) = (1, ⟨(cutL L 64).toArray⟩, 0) := by unfold readO; rw [if_pos (Or.inl (by simp))]; rfl
      have r2 : readO (50 :: 59 :: L) = (1, ⟨(cutL L 64).toArray⟩, 0) := by unfold readO; rw [if_pos (Or.inr (by simp))]; rfl
      rw [if_neg (by decide), ba_size, if_pos (by omega), e1, e2, oread_f _ (by simp; omega) (K + 1) (by simp; omega), Option.bind_some, oread_f _ (by simp; omega) (K + 1) (by simp; omega), Option.bind_some, r1, r2, if_pos rfl, if_pos rfl, if_neg (by simp)]
      simp only [longlinelaw18_OscTitles.j1]
      rw [if_neg (by decide)]
      exact lets 100000 (Nat.le_refl _) L (by omega) l1 (by omega) hb l1.length 0 K [] (by omega) rfl (fun c hc => by simp at hc) (by omega)

end Go.Proofs.Ytdnkclccjgcelaa.Pure
