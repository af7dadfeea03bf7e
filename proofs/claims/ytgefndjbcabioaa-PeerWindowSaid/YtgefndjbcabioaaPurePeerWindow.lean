/- PeerWindow: for every list of nonces and every asked nonce the law's printed function answers true, given enough rounds. -/
import Derived.Test.YtgefndjbcabioaaQPeerx6
import Derived.Test.YtgefndjbcabioaaPeerFacts
namespace Go.Proofs.Ytgefndjbcabioaa.Pure
open Go.RowKit Go.Proofs.Ytgefndjbcabioaa.QPeer Go.Proofs.YtgefndjbcabioaaW.PrintWords Go.Proofs.YtgefndjbcabioaaW.PrintLast
open Go.Proofs.Ytgefndjbcabioaa.PeerFacts

theorem hd_top {N f : Int} {b : Nat} (h : J N b f) (c : 1 ≤ N) : hd N b N = true := by
  rcases h with ⟨rfl, _⟩ | ⟨_, _, _, d⟩
  · omega
  · simp only [hd, Bool.and_eq_true, Bool.or_eq_true, decide_eq_true_eq]
    exact ⟨⟨c, by omega⟩, .inr (by rw [show (N - N).toNat = 0 by omega]; exact d)⟩

theorem window_j2 (l : List S32) (ask i N f mv : Int) (b : Nat) (k : Nat) (h : J N b f) (ha : 0 ≤ ask) (hi0 : 0 ≤ i) (hi1 : i ≤ 150) (hk : 1 ≤ k) :
    longlinelaw11_PeerWindow.j2 (k + 1) l ask i N false true N b f mv = longlinelaw11_PeerWindow.l0 k l ask (i + 1) true N b f mv := by
  have hbd := h.bd
  have H := fun x hx => heard_eq mv x k h hx hk
  simp only [longlinelaw11_PeerWindow.j2, Bool.false_eq_true, if_false]
  rw [w64 (n := i + 1) (by omega) (by omega)]
  by_cases c : ask > N
  · have hno : hd N b ask = false := by simp [hd, show ¬ ask ≤ N by omega]
    rw [if_pos c, H ask ha]
    simp only [Option.bind_some]; rw [hno, if_neg (by decide)]
    by_cases c1 : N > 0
    · rw [if_pos c1, if_neg (by omega), H N (by omega)]
      simp only [Option.bind_some]; rw [hd_top h (by omega), if_pos rfl]
    · rw [if_neg c1]
  · rw [if_neg c]
    by_cases c1 : N > 0
    · rw [if_pos c1, if_pos (by omega), u64w (n := N - ask) (by omega) (by omega)]
      by_cases c2 : N - ask ≥ 64
      · have hy : hd N b ask = true := by
          simp only [hd, Bool.and_eq_true, Bool.or_eq_true, decide_eq_true_eq]
          exact ⟨⟨by omega, by omega⟩, .inl (.inr c2)⟩
        rw [if_pos c2, H ask ha]
        simp only [Option.bind_some]; rw [hy, if_pos rfl, H N (by omega)]
        simp only [Option.bind_some]; rw [hd_top h (by omega), if_pos rfl]
      · rw [if_neg c2, H N (by omega)]
        simp only [Option.bind_some]; rw [hd_top h (by omega), if_pos rfl]
    · rw [if_neg c1]

theorem window_l0 (l : List S32) (ask : Int) (ha : 0 ≤ ask) (hw : ∀ x ∈ l, (Lit.int .u64 x.f0).wf = true ∧ (Lit.int .u32 x.f1).wf = true) : ∀ (d : Nat) (k : Nat) (i N f mv : Int) (b : Nat), J N b f → 0 ≤ i → i + d = 100 → 3 * d + 20 ≤ k →
    longlinelaw11_PeerWindow.l0 k l ask i true N b f mv = some true := by
  intro d
  have stop : ∀ (k : Nat) (i N f mv : Int) (b : Nat), 12 ≤ k → longlinelaw11_PeerWindow.j1 k l ask i false true N b f mv = some true := by
    intro k i N f mv b hk
    obtain ⟨k, rfl⟩ : ∃ j, k = j + 1 := ⟨k - 1, by omega⟩
    simp only [longlinelaw11_PeerWindow.j1, Bool.false_eq_true, if_false]; rw [alive_eq (by omega)]; rfl
  induction d with
  | zero =>
    intro k i N f mv b h hi0 hd hk
    obtain ⟨k, rfl⟩ : ∃ j, k = j + 1 := ⟨k - 1, by omega⟩
    simp only [longlinelaw11_PeerWindow.l0]; rw [decide_eq_false (show ¬ i < 100 by omega), stop _ _ _ _ _ _ (by omega)]; simp
  | succ d ih =>
    intro k i N f mv b h hi0 hd0 hk
    obtain ⟨k, rfl⟩ : ∃ j, k = j + 3 := ⟨k - 3, by omega⟩
    simp only [longlinelaw11_PeerWindow.l0]; rw [decide_eq_true (show i < 100 by omega)]
    by_cases c : i < (l.length : Int)
    · have hm := hw _ (rd_mem hi0 c)
      have hx := Go.bounds_u64 hm.1
      have hbd := h.bd
      rw [if_pos c]; simp only [longlinelaw11_PeerWindow.j1, if_true]; rw [if_pos hi0, if_pos c]
      by_cases c1 : (rd_T32 l i).f0 < 1 ∨ 9223372036854775807 < (rd_T32 l i).f0
      · rw [hear_bad mv _ _ (k + 1) c1 (by omega)]
        simp only [Option.bind_some, peer_Peer_Newest.f]; rw [if_neg (by decide), if_neg (by decide), if_pos trivial]
        have hbad : longlinelaw11_PeerWindow.j2 (k + 1) l ask i N false true N b f mv = some true := by
          rw [window_j2 l ask i N f mv b k h ha hi0 (by omega) (by omega)]
          exact ih _ _ _ _ _ _ h (by omega) (by omega) (by omega)
        by_cases c2 : (rd_T32 l i).f0 ≥ 1
        · rw [if_pos c2, decide_eq_false (show ¬ (rd_T32 l i).f0 ≤ 9223372036854775807 by omega)]; exact hbad
        · rw [if_neg c2]; exact hbad
      · cases ho : hd N b (rd_T32 l i).f0
        · by_cases c2 : (rd_T32 l i).f0 ≤ N
          · rw [hear_low mv _ _ (k + 1) h (by omega) c2 ho (by omega)]
            simp only [Option.bind_some, peer_Peer_Newest.f, if_true]; rw [heard_eq mv _ (k + 1) (J_low h (by omega) c2 ho) (by omega) (by omega)]
            simp only [Option.bind_some]; rw [hd_low_self (by omega) c2, if_pos rfl, if_neg (by decide), window_j2 l ask i N f mv _ k (J_low h (by omega) c2 ho) ha hi0 (by omega) (by omega)]
            exact ih _ _ _ _ _ _ (J_low h (by omega) c2 ho) (by omega) (by omega) (by omega)
          · rw [hear_new mv _ _ (k + 1) h (by omega) (by omega) (by omega) (by omega)]
            simp only [Option.bind_some, peer_Peer_Newest.f, if_true]; rw [heard_eq _ _ (k + 1) (J_up (f := f) _ (by omega) (by omega)).1 (by omega) (by omega)]
            simp only [Option.bind_some]; rw [hd_up_self (by omega), if_pos rfl, if_neg (by decide), window_j2 l ask i _ _ _ _ k (J_up (f := f) _ (by omega) (by omega)).1 ha hi0 (by omega) (by omega)]
            exact ih _ _ _ _ _ _ (J_up (f := f) _ (by omega) (by omega)).1 (by omega) (by omega) (by omega)
        · rw [hear_old mv _ _ (k + 1) h (by omega) (by omega) ho (by omega)]
          simp only [Option.bind_some, peer_Peer_Newest.f]; rw [if_neg (by decide), if_pos trivial, heard_eq mv _ (k + 1) h (by omega) (by omega)]
          simp only [Option.bind_some]; rw [ho, if_pos rfl, if_neg (by decide), window_j2 l ask i N f mv b k h ha hi0 (by omega) (by omega)]
          exact ih _ _ _ _ _ _ h (by omega) (by omega) (by omega)
    · rw [if_neg c]; exact stop _ _ _ _ _ _ (by omega)

theorem PeerWindow : longlinelaw11_PeerWindow.Pure := by
  intro l ask _ _ hw ha
  obtain ⟨K, hK⟩ : ∃ K : Nat, K = 320 := ⟨_, rfl⟩
  refine ⟨K, ?_⟩
  rw [longlinelaw11_PeerWindow.f, peer_New.f, Option.bind_some]
  exact window_l0 l ask (Go.bounds_u64 ha).1 hw 100 K 0 0 0 0 0 (.inl ⟨rfl, rfl, rfl⟩) (by omega) (by omega) (by omega)

end Go.Proofs.Ytgefndjbcabioaa.Pure
