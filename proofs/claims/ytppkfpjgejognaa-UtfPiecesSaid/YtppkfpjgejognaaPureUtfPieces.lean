/- UtfPieces: for every list of bytes and all cuts the law's printed function answers true, given enough rounds. -/
import Derived.Test.YtppkfpjgejognaaQUtfx6
import Derived.Test.YtppkfpjgejognaaUtfFacts
namespace Go.Proofs.Ytppkfpjgejognaa.Pure
open Go.RowKit Go.Proofs.Ytppkfpjgejognaa.QUtf Go.Proofs.YtppkfpjgejognaaW.PrintWords Go.Proofs.YtppkfpjgejognaaW.PrintLast
open Go.Proofs.Ytppkfpjgejognaa.UtfCore Go.Proofs.Ytppkfpjgejognaa.UtfFacts

/-- The end: what is left is read, and what waits is ended. -/
theorem pieces_end (b cuts out rest : List Int) (i p n m lo hi : Int) (s : St) (k : Nat) (hb : ∀ c ∈ b, 0 ≤ c ∧ c ≤ 255) (hbl : b.length ≤ 2000) (hrest : ∀ c ∈ rest, 0 ≤ c ∧ c ≤ 255) (hrl : rest.length ≤ 2000) (hrep : Rep s p n m lo hi)
    (hrun : run none b = (out ++ (run s rest).1, (run s rest).2)) (hol : out.length ≤ 4000) (hk : 20000 ≤ k) :
    longlinelaw13_UtfPieces.j2 (k + 1) b cuts out rest i false true p n m lo hi = some true := by
  obtain ⟨p1, n1, m1, lo1, hi1, e1, r1⟩ := read_eq rest hrest (by omega) k s p n m lo hi hrep (by omega)
  obtain ⟨p2, n2, lo2, hi2, e2⟩ := end_eq r1
  have h1 := run_plain_len rest s
  have h2 := fin_len (run s rest).2
  have hp : (out ++ (run s rest).1) ++ fin (run s rest).2 = pts b := by rw [pts_fin, hrun]
  have hpl := (pts_facts b hb).2.1
  simp only [longlinelaw13_UtfPieces.j2, Bool.false_eq_true, if_false]; rw [e1]
  simp only [Option.bind_some]; rw [e2]
  simp only [Option.bind_some]; rw [if_pos (by omega), if_pos (by rw [List.length_append]; omega), alive_eq (by omega)]
  simp only [Option.bind_some, if_true]; rw [points_eq b hb (by omega) k (by omega), hp]
  simp only [Option.bind_some]; rw [same_eq _ _ rfl (by omega) k (by omega)]
  simp only [Option.bind_some, if_true, utf_Reader_Waits.f]; rfl

theorem pieces_l0 (b cuts : List Int) (hb : ∀ c ∈ b, 0 ≤ c ∧ c ≤ 255) (hbl : b.length ≤ 2000) (hcuts : ∀ c ∈ cuts, 0 ≤ c ∧ c ≤ 255) (hcl : cuts.length ≤ 300) : ∀ (r k : Nat) (i : Int) (out rest : List Int) (s : St) (p n m lo hi : Int), 0 ≤ i → i + r = cuts.length → (∀ c ∈ rest, 0 ≤ c ∧ c ≤ 255) → out.length + 2 * rest.length ≤ 4000 → Rep s p n m lo hi →
    run none b = (out ++ (run s rest).1, (run s rest).2) → 4 * r + 20010 ≤ k → longlinelaw13_UtfPieces.l0 k b cuts out rest i true p n m lo hi = some true := by
  intro r
  induction r with
  | zero =>
    intro k i out rest s p n m lo hi h0 h1 hrest hl hrep hrun hk
    obtain ⟨k, rfl⟩ : ∃ j, k = j + 2 := ⟨k - 2, by omega⟩
    simp only [longlinelaw13_UtfPieces.l0]; rw [if_neg (by omega)]
    exact pieces_end b cuts out rest i p n m lo hi s k hb hbl hrest (by omega) hrep hrun (by omega) (by omega)
  | succ r ih =>
    intro k i out rest s p n m lo hi h0 h1 hrest hl hrep hrun hk
    obtain ⟨k, rfl⟩ : ∃ j, k = j + 2 := ⟨k - 2, by omega⟩
    have hlt : i < (cuts.length : Int) := by omega
    have hc := hcuts _ (rd_mem h0 hlt)
    simp only [longlinelaw13_UtfPieces.l0]; rw [if_pos hlt]
    by_cases ce : (rest.length : Int) > 0
    · rw [decide_eq_true ce]
      -- a piece of q bytes
      have piece : ∀ q : Nat, q ≤ rest.length → ∃ p' n' m' lo' hi', utf_Reader_Read.f k true p n m lo hi (rest.take q) = some ((run s (rest.take q)).1, 0, true, p', n', m', lo', hi') ∧
          longlinelaw13_UtfPieces.l0 k b cuts (out ++ (run s (rest.take q)).1) (rest.drop q) (i + 1) true p' n' m' lo' hi' = some true := by
        intro q hq
        have ht : ∀ c ∈ rest.take q, 0 ≤ c ∧ c ≤ 255 := fun c hc => hrest c (List.mem_of_mem_take hc)
        have hd : ∀ c ∈ rest.drop q, 0 ≤ c ∧ c ≤ 255 := fun c hc => hrest c (List.mem_of_mem_drop hc)
        have hlt' : (rest.take q).length = q := by rw [List.length_take]; omega
        have hld : (rest.drop q).length = rest.length - q := List.length_drop ..
        obtain ⟨p', n', m', lo', hi', e, hr⟩ := read_eq _ ht (by omega) k s p n m lo hi hrep (by omega)
        have hpl := run_plain_len (rest.take q) s
        refine ⟨p', n', m', lo', hi', e, ?_⟩
        refine ih k (i + 1) _ _ _ p' n' m' lo' hi' (by omega) (by omega) hd (by rw [List.length_append]; omega) hr ?_ (by omega)
        have := run_append (rest.take q) (rest.drop q) s
        rw [List.take_append_drop] at this
        rw [hrun, this, List.append_assoc]
      simp only [longlinelaw13_UtfPieces.j2, if_true]; rw [if_pos h0, if_pos hlt]
      have hand : Go.bits .and .u8 (rd cuts i) 3 = rd cuts i % 4 := Go.bits_mask .u8 8 (by decide) Go.wraps_u8 2 (by decide) _ hc.1 (by omega)
      rw [hand, w64 (n := rd cuts i % 4) (by omega) (by omega)]
      by_cases cg : rd cuts i % 4 > (rest.length : Int)
      · obtain ⟨p', n', m', lo', hi', e, hr⟩ := piece rest.length (Nat.le_refl _)
        have hpl := run_plain_len (rest.take rest.length) s
        have hlt' : (rest.take rest.length).length = rest.length := by rw [List.length_take]; omega
        rw [if_pos cg, if_pos (by omega), if_pos (by omega), Int.toNat_natCast, e]
        simp only [Option.bind_some, if_true]; rw [if_pos (by omega), w64 (by omega) (by omega)]
        exact hr
      · obtain ⟨p', n', m', lo', hi', e, hr⟩ := piece (rd cuts i % 4).toNat (by omega)
        have hpl := run_plain_len (rest.take (rd cuts i % 4).toNat) s
        have hlt' : (rest.take (rd cuts i % 4).toNat).length ≤ rest.length := by rw [List.length_take]; omega
        rw [if_neg cg, if_pos (by omega), if_pos (by omega), e]
        simp only [Option.bind_some, if_true]; rw [if_pos (by omega), w64 (by omega) (by omega)]
        exact hr
    · rw [decide_eq_false ce]
      exact pieces_end b cuts out rest i p n m lo hi s k hb hbl hrest (by omega) hrep hrun (by omega) (by omega)

theorem UtfPieces : longlinelaw13_UtfPieces.Pure := by
  intro b cuts _ _ hb _ _ hc
  have hb' : ∀ c ∈ b, 0 ≤ c ∧ c ≤ 255 := fun c h => Go.bounds_u8 (hb c h)
  have hc' : ∀ c ∈ cuts, 0 ≤ c ∧ c ≤ 255 := fun c h => Go.bounds_u8 (hc c h)
  obtain ⟨K, hK⟩ : ∃ K : Nat, K = 30000 := ⟨_, rfl⟩
  refine ⟨K + 1, ?_⟩
  have stop : longlinelaw13_UtfPieces.j0 (K + 1) b cuts true = some true := by
    simp only [longlinelaw13_UtfPieces.j0, if_true]; rw [alive_eq (by omega)]; rfl
  rw [longlinelaw13_UtfPieces.f]
  by_cases c : (b.length : Int) > 2000
  · rw [if_pos c]; exact stop
  · rw [if_neg c]
    by_cases c2 : (cuts.length : Int) > 300
    · rw [decide_eq_true c2]; exact stop
    · rw [decide_eq_false c2]
      simp only [longlinelaw13_UtfPieces.j0, Bool.false_eq_true, if_false, utf_New.f, Option.bind_some]
      exact pieces_l0 b cuts hb' (by omega) hc' (by omega) cuts.length K 0 [] b none 0 0 0 0 0 (by omega) (by omega) hb' (by simp; omega) rfl (by simp) (by omega)
end Go.Proofs.Ytppkfpjgejognaa.Pure
