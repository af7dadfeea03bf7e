/- PeerOnce: for every list of nonces the law's printed function answers true, given enough rounds: what was heard stays heard, and is not heard again. -/
import Derived.Test.YtgefndjbcabioaaQPeerx4
import Derived.Test.YtgefndjbcabioaaPeerFacts
namespace Go.Proofs.Ytgefndjbcabioaa.Pure
open Go.RowKit Go.Proofs.Ytgefndjbcabioaa.QPeer Go.Proofs.YtgefndjbcabioaaW.PrintWords Go.Proofs.YtgefndjbcabioaaW.PrintLast
open Go.Proofs.Ytgefndjbcabioaa.PeerFacts

theorem once_l1 (l : List S32) (fine : List Int) (i N f mv : Int) (b : Nat) (hi0 : 0 ≤ i) (hi1 : i < (l.length : Int)) (hi2 : i ≤ 150) (h : J N b f) (hx : 0 ≤ (rd_T32 l i).f0) (hd1 : hd N b (rd_T32 l i).f0 = true)
    (hne : ∀ y ∈ fine, y ≠ (rd_T32 l i).f0) (hlen : fine.length ≤ 150) : ∀ (e : Nat) (k : Nat) (z : Int), 0 ≤ z → z + e = fine.length → 1 ≤ k →
    longlinelaw11_PeerOnce.l1 (k + e + 1) l fine i z true N b f mv = longlinelaw11_PeerOnce.l0 k l (fine ++ [(rd_T32 l i).f0]) (i + 1) true N b f mv := by
  intro e
  induction e with
  | zero =>
    intro k z h0 h1 hk
    simp only [longlinelaw11_PeerOnce.l1]; rw [if_neg (by omega), if_pos hi0, if_pos hi1, if_pos (by omega), heard_eq mv _ k h hx (by omega)]
    simp only [Option.bind_some]; rw [if_pos hd1, w64 (n := i + 1) (by omega) (by omega)]
  | succ e ih =>
    intro k z h0 h1 hk
    have hz : ¬ rd fine z = (rd_T32 l i).f0 := by
      have hn : z.toNat < fine.length := by omega
      have : rd fine z ∈ fine := by
        unfold rd; rw [List.getD_eq_getElem?_getD, List.getElem?_eq_getElem hn]; exact List.getElem_mem hn
      exact hne _ this
    rw [show k + (e + 1) + 1 = (k + e + 1) + 1 by omega]
    simp only [longlinelaw11_PeerOnce.l1]; rw [if_pos (by omega), if_pos h0, if_pos hi0, if_pos hi1, if_neg hz, w64 (n := z + 1) (by omega) (by omega)]
    exact ih k (z + 1) (by omega) (by omega) hk

theorem once_l0 (l : List S32) (hw : ∀ x ∈ l, (Lit.int .u64 x.f0).wf = true ∧ (Lit.int .u32 x.f1).wf = true) : ∀ (d : Nat) (k : Nat) (i N f mv : Int) (b : Nat) (fine : List Int), J N b f → (∀ y ∈ fine, hd N b y = true) → (fine.length : Int) ≤ i → 0 ≤ i → i + d = 150 → 200 * d + 20 ≤ k →
    longlinelaw11_PeerOnce.l0 k l fine i true N b f mv = some true := by
  intro d
  have stop : ∀ (k : Nat) (i N f mv : Int) (b : Nat) (fine : List Int), 12 ≤ k → longlinelaw11_PeerOnce.j1 k l fine i false true N b f mv = some true := by
    intro k i N f mv b fine hk
    obtain ⟨k, rfl⟩ : ∃ j, k = j + 1 := ⟨k - 1, by omega⟩
    simp only [longlinelaw11_PeerOnce.j1, Bool.false_eq_true, if_false]; rw [alive_eq (by omega)]; rfl
  induction d with
  | zero =>
    intro k i N f mv b fine h hf hlen hi0 hd hk
    obtain ⟨k, rfl⟩ : ∃ j, k = j + 1 := ⟨k - 1, by omega⟩
    simp only [longlinelaw11_PeerOnce.l0]; rw [decide_eq_false (show ¬ i < 150 by omega), stop _ _ _ _ _ _ _ (by omega)]; simp
  | succ d ih =>
    intro k i N f mv b fine h hf hlen hi0 hd0 hk
    obtain ⟨k, rfl⟩ : ∃ j, k = j + 2 := ⟨k - 2, by omega⟩
    simp only [longlinelaw11_PeerOnce.l0]; rw [decide_eq_true (show i < 150 by omega)]
    by_cases c : i < (l.length : Int)
    · have hm := hw _ (rd_mem hi0 c)
      have hx := Go.bounds_u64 hm.1
      have skip : ∀ (r : Option (Bool × Int × Bool × Int × Int × Int × Int)) (e : Int), ¬ e = 0 → r = some (false, e, true, N, (b : Int), f, mv) → r.bind (fun bt => if bt.2.1 = 0 then longlinelaw11_PeerOnce.l1 k l fine i 0 bt.2.2.1 bt.2.2.2.1 bt.2.2.2.2.1 bt.2.2.2.2.2.1 bt.2.2.2.2.2.2 else longlinelaw11_PeerOnce.l0 k l fine (wrap64 (i + 1)) bt.2.2.1 bt.2.2.2.1 bt.2.2.2.2.1 bt.2.2.2.2.2.1 bt.2.2.2.2.2.2) = some true := by
        intro r e he hr
        rw [hr]; simp only [Option.bind_some]; rw [if_neg he, w64 (n := i + 1) (by omega) (by omega)]
        exact ih k (i + 1) N f mv b fine h hf (by omega) (by omega) (by omega) (by omega)
      have take : ∀ (r : Option (Bool × Int × Bool × Int × Int × Int × Int)) (mvd : Bool) (N' f' mv' : Int) (b' : Nat), r = some (mvd, 0, true, N', (b' : Int), f', mv') → J N' b' f' → (∀ y, hd N b y = true → hd N' b' y = true) → hd N' b' (rd_T32 l i).f0 = true → hd N b (rd_T32 l i).f0 = false →
          r.bind (fun bt => if bt.2.1 = 0 then longlinelaw11_PeerOnce.l1 k l fine i 0 bt.2.2.1 bt.2.2.2.1 bt.2.2.2.2.1 bt.2.2.2.2.2.1 bt.2.2.2.2.2.2 else longlinelaw11_PeerOnce.l0 k l fine (wrap64 (i + 1)) bt.2.2.1 bt.2.2.2.1 bt.2.2.2.2.1 bt.2.2.2.2.2.1 bt.2.2.2.2.2.2) = some true := by
        intro r mvd N' f' mv' b' hr hJ hkeep hself hno
        have hne : ∀ y ∈ fine, y ≠ (rd_T32 l i).f0 := by
          intro y hy e
          have := hf y hy
          rw [e, hno] at this
          exact absurd this (by decide)
        rw [hr]; simp only [Option.bind_some, if_true]
        obtain ⟨q, hq⟩ : ∃ q, k = q + fine.length + 1 := ⟨k - fine.length - 1, by omega⟩
        rw [hq, once_l1 l fine i N' f' mv' b' hi0 c (by omega) hJ hx.1 hself hne (by omega) fine.length q 0 (by omega) (by omega) (by omega)]
        refine ih q (i + 1) N' f' mv' b' _ hJ ?_ (by simp; omega) (by omega) (by omega) (by omega)
        intro y hy
        rcases List.mem_append.1 hy with hy | hy
        · exact hkeep y (hf y hy)
        · rw [List.mem_singleton.1 hy]; exact hself
      rw [if_pos c]; simp only [longlinelaw11_PeerOnce.j1, if_true]; rw [if_pos hi0, if_pos c]
      by_cases c1 : (rd_T32 l i).f0 < 1 ∨ 9223372036854775807 < (rd_T32 l i).f0
      · exact skip _ 1 (by decide) (hear_bad mv _ _ k c1 (by omega))
      · cases ho : hd N b (rd_T32 l i).f0
        · by_cases c2 : (rd_T32 l i).f0 ≤ N
          · exact take _ false N f mv _ (hear_low mv _ _ k h (by omega) c2 ho (by omega)) (J_low h (by omega) c2 ho) (fun y hy => hd_low hy) (hd_low_self (by omega) c2) ho
          · exact take _ _ _ _ _ _ (hear_new mv _ _ k h (by omega) (by omega) (by omega) (by omega)) (J_up (f := f) _ (by omega) (by omega)).1 (fun y hy => hd_up (by omega) hy) (hd_up_self (by omega)) ho
        · exact skip _ 23 (by decide) (hear_old mv _ _ k h (by omega) (by omega) ho (by omega))
    · rw [if_neg c]; exact stop _ _ _ _ _ _ _ (by omega)

theorem PeerOnce : longlinelaw11_PeerOnce.Pure := by
  intro l _ _ hw
  obtain ⟨K, hK⟩ : ∃ K : Nat, K = 30020 := ⟨_, rfl⟩
  refine ⟨K, ?_⟩
  rw [longlinelaw11_PeerOnce.f, peer_New.f, Option.bind_some]
  exact once_l0 l hw 150 K 0 0 0 0 0 [] (.inl ⟨rfl, rfl, rfl⟩) (by simp) (by simp) (by omega) (by omega) (by omega)

end Go.Proofs.Ytgefndjbcabioaa.Pure
