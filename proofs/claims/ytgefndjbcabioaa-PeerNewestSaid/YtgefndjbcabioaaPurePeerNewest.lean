/- PeerNewest: for every list of nonces the law's printed function answers true, given enough rounds: the address is the greatest nonce's. -/
import Derived.Test.YtgefndjbcabioaaQPeerx5
import Derived.Test.YtgefndjbcabioaaPeerFacts
namespace Go.Proofs.Ytgefndjbcabioaa.Pure
open Go.RowKit Go.Proofs.Ytgefndjbcabioaa.QPeer Go.Proofs.YtgefndjbcabioaaW.PrintWords Go.Proofs.YtgefndjbcabioaaW.PrintLast
open Go.Proofs.Ytgefndjbcabioaa.PeerFacts

theorem newest_j3 (l : List S32) (i N f mv was e : Int) (b : Nat) (mvd : Bool) (k : Nat) (h : J N b f) (hi0 : 0 ≤ i) (hi1 : i ≤ 150) (hok : e = 0 ∨ mvd = false ∧ f = was) :
    longlinelaw11_PeerNewest.j3 (k + 1) l N f i was mvd e true N b f mv = longlinelaw11_PeerNewest.l0 k l N f (i + 1) true N b f mv := by
  have hc : (decide (1 ≤ N) != decide (N > 0)) = false := by
    by_cases c : 1 ≤ N
    · rw [decide_eq_true c, decide_eq_true (show N > 0 by omega)]; rfl
    · rw [decide_eq_false c, decide_eq_false (show ¬ N > 0 by omega)]; rfl
  simp only [longlinelaw11_PeerNewest.j3]; rw [from_eq mv h]
  simp only [Option.bind_some]; rw [hc, if_neg (by decide), if_pos trivial]
  simp only [peer_Peer_Newest.f, Option.bind_some, if_true]; rw [w64 (n := i + 1) (by omega) (by omega)]
  by_cases c : e = 0
  · rw [if_pos c]
  · rcases hok with hok | ⟨rfl, rfl⟩
    · exact absurd hok c
    · rw [if_neg c, if_neg (by decide), if_pos rfl]

theorem newest_l0 (l : List S32) (hw : ∀ x ∈ l, (Lit.int .u64 x.f0).wf = true ∧ (Lit.int .u32 x.f1).wf = true) : ∀ (d : Nat) (k : Nat) (i N f mv : Int) (b : Nat), J N b f → 0 ≤ i → i + d = 150 → 4 * d + 20 ≤ k →
    longlinelaw11_PeerNewest.l0 k l N f i true N b f mv = some true := by
  intro d
  have stop : ∀ (k : Nat) (i N f mv : Int) (b : Nat), 12 ≤ k → longlinelaw11_PeerNewest.j1 k l N f i false true N b f mv = some true := by
    intro k i N f mv b hk
    obtain ⟨k, rfl⟩ : ∃ j, k = j + 1 := ⟨k - 1, by omega⟩
    simp only [longlinelaw11_PeerNewest.j1, Bool.false_eq_true, if_false]; rw [alive_eq (by omega)]; rfl
  induction d with
  | zero =>
    intro k i N f mv b h hi0 hd hk
    obtain ⟨k, rfl⟩ : ∃ j, k = j + 1 := ⟨k - 1, by omega⟩
    simp only [longlinelaw11_PeerNewest.l0]; rw [decide_eq_false (show ¬ i < 150 by omega), stop _ _ _ _ _ _ (by omega)]; simp
  | succ d ih =>
    intro k i N f mv b h hi0 hd0 hk
    obtain ⟨k, rfl⟩ : ∃ j, k = j + 4 := ⟨k - 4, by omega⟩
    simp only [longlinelaw11_PeerNewest.l0]; rw [decide_eq_true (show i < 150 by omega)]
    by_cases c : i < (l.length : Int)
    · have hm := hw _ (rd_mem hi0 c)
      have hx := Go.bounds_u64 hm.1
      have hbd := h.bd
      rw [if_pos c]; simp only [longlinelaw11_PeerNewest.j1, if_true]; rw [from_eq mv h]
      simp only [Option.bind_some]; rw [if_pos hi0, if_pos c]
      by_cases c1 : (rd_T32 l i).f0 < 1 ∨ 9223372036854775807 < (rd_T32 l i).f0
      · rw [hear_bad mv _ _ (k + 2) c1 (by omega)]
        simp only [Option.bind_some]; rw [if_neg (by decide)]
        simp only [longlinelaw11_PeerNewest.j2, Bool.false_eq_true, if_false]
        rw [newest_j3 l i N f mv f 1 b false k h hi0 (by omega) (.inr ⟨rfl, rfl⟩)]
        exact ih _ _ _ _ _ _ h (by omega) (by omega) (by omega)
      · cases ho : hd N b (rd_T32 l i).f0
        · by_cases c2 : (rd_T32 l i).f0 ≤ N
          · rw [hear_low mv _ _ (k + 2) h (by omega) c2 ho (by omega)]
            simp only [Option.bind_some, if_true]; rw [decide_eq_false (show ¬ (rd_T32 l i).f0 > N by omega)]
            simp only [longlinelaw11_PeerNewest.j2, Bool.false_eq_true, if_false]
            rw [newest_j3 l i N f mv f 0 _ false k (J_low h (by omega) c2 ho) hi0 (by omega) (.inl rfl)]
            exact ih _ _ _ _ _ _ (J_low h (by omega) c2 ho) (by omega) (by omega) (by omega)
          · rw [hear_new mv _ _ (k + 2) h (by omega) (by omega) (by omega) (by omega)]
            simp only [Option.bind_some, if_true]; rw [decide_eq_true (show (rd_T32 l i).f0 > N by omega)]
            simp only [longlinelaw11_PeerNewest.j2, if_true]; rw [if_pos hi0, if_pos c]
            rw [newest_j3 l i _ _ _ f 0 _ _ k (J_up (f := f) _ (by omega) (by omega)).1 hi0 (by omega) (.inl rfl)]
            exact ih _ _ _ _ _ _ (J_up (f := f) _ (by omega) (by omega)).1 (by omega) (by omega) (by omega)
        · rw [hear_old mv _ _ (k + 2) h (by omega) (by omega) ho (by omega)]
          simp only [Option.bind_some]; rw [if_neg (by decide)]
          simp only [longlinelaw11_PeerNewest.j2, Bool.false_eq_true, if_false]
          rw [newest_j3 l i N f mv f 23 b false k h hi0 (by omega) (.inr ⟨rfl, rfl⟩)]
          exact ih _ _ _ _ _ _ h (by omega) (by omega) (by omega)
    · rw [if_neg c]; exact stop _ _ _ _ _ _ (by omega)

theorem PeerNewest : longlinelaw11_PeerNewest.Pure := by
  intro l _ _ hw
  obtain ⟨K, hK⟩ : ∃ K : Nat, K = 620 := ⟨_, rfl⟩
  refine ⟨K, ?_⟩
  rw [longlinelaw11_PeerNewest.f, peer_New.f, Option.bind_some]
  exact newest_l0 l hw 150 K 0 0 0 0 0 (.inl ⟨rfl, rfl, rfl⟩) (by omega) (by omega) (by omega)

end Go.Proofs.Ytgefndjbcabioaa.Pure
