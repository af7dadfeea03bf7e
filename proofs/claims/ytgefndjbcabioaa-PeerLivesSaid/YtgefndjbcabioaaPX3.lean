/- longlineref11's peer and peer.Peer beside each other, plain: what one round of PeerLives does to both. -/
import Derived.Test.YtgefndjbcabioaaPX2
import Derived.Test.YtgefndjbcabioaaPeerFacts
set_option linter.unusedVariables false
set_option linter.unusedSimpArgs false
namespace Go.Proofs.Ytgefndjbcabioaa.PX
open Go.RowKit Go.Proofs.Ytgefndjbcabioaa.QPeer Go.Proofs.Ytgefndjbcabioaa.PeerFacts Go.Proofs.YtgefndjbcabioaaW.PrintWords Go.Proofs.YtgefndjbcabioaaW.PrintLast Go.Proofs.YtgefndjbcabioaaW.PrintMore

/-- The greatest number of a list (the first of them), and its place; scanned from place i, (n, at) so far. -/
def nst : List Int → Int → Int → Int → Int × Int
  | [], _, n, at_ => (n, at_)
  | x :: t, i, n, at_ => if x > n then nst t (i + 1) x i else nst t (i + 1) n at_
theorem nst_snoc (x : Int) : ∀ (l : List Int) (i n at_ : Int), nst (l ++ [x]) i n at_ = if x > (nst l i n at_).1 then (x, i + l.length) else nst l i n at_
  | [], i, n, at_ => by simp [nst]
  | y :: t, i, n, at_ => by
    simp only [List.cons_append, nst, List.length_cons]
    have e : ∀ (j : Int), i + 1 + (t.length : Int) = i + ((t.length + 1 : Nat) : Int) := fun _ => by omega
    split
    · rw [nst_snoc x t (i + 1) y i, e 0]
    · rw [nst_snoc x t (i + 1) n at_, e 0]
theorem rd_at (L : List Int) (i : Nat) (h : i < L.length) : rd L (i : Int) = L[i] := by
  unfold rd
  simp [List.getD_eq_getElem?_getD, h]
theorem newest_loop (L A : List Int) (M : Int) (hL : L.length ≤ 1000) : ∀ (m i k : Nat) (n at_ : Int), i + m = L.length → m < k → longlineref11_Peer_Newest.l0 k n at_ (i : Int) L A M = some ((nst (L.drop i) i n at_).1, (nst (L.drop i) i n at_).2, M)
  | 0, i, k, n, at_, hi, hk => by
    obtain ⟨k, rfl⟩ : ∃ j, k = j + 1 := ⟨k - 1, by omega⟩
    rw [List.drop_eq_nil_of_le (by omega)]
    simp only [longlineref11_Peer_Newest.l0]
    rw [if_neg (by omega)]
    rfl
  | m + 1, i, k, n, at_, hi, hk => by
    obtain ⟨k, rfl⟩ : ∃ j, k = j + 1 := ⟨k - 1, by omega⟩
    have hlt : i < L.length := by omega
    rw [List.drop_eq_getElem_cons hlt]
    simp only [longlineref11_Peer_Newest.l0, nst]
    rw [if_pos (by omega), if_pos (by omega), rd_at L i hlt, w64 (by omega) (by omega)]
    have ih := newest_loop L A M hL m (i + 1) k
    rw [Int.natCast_add, Int.natCast_one] at ih
    split
    · exact ih _ _ (by omega) (by omega)
    · exact ih _ _ (by omega) (by omega)
theorem newest_f (L A : List Int) (M : Int) (hL : L.length ≤ 1000) (k : Nat) (hk : 1001 ≤ k) : longlineref11_Peer_Newest.f k L A M = some ((nst L 0 0 (-1)).1, (nst L 0 0 (-1)).2, M) := by
  unfold longlineref11_Peer_Newest.f
  have := newest_loop L A M hL L.length 0 k 0 (-1) (by omega) (by omega)
  simpa using this

/-- Is a nonce told as heard, by the list? -/
def hrd (N at_ : Int) (L : List Int) (y : Int) : Bool := decide (0 ≤ at_) && (decide (y = 0) || (decide (y < N) && decide (63 < N - y)) || L.contains y)
theorem heard_loop (L A : List Int) (M y : Int) (hL : L.length ≤ 1000) : ∀ (m i k : Nat), i + m = L.length → m < k → longlineref11_Peer_Heard.l0 k y (i : Int) L A M = some ((L.drop i).contains y, M)
  | 0, i, k, hi, hk => by
    obtain ⟨k, rfl⟩ : ∃ j, k = j + 1 := ⟨k - 1, by omega⟩
    rw [List.drop_eq_nil_of_le (by omega)]
    simp only [longlineref11_Peer_Heard.l0]
    rw [if_neg (by omega)]
    rfl
  | m + 1, i, k, hi, hk => by
    obtain ⟨k, rfl⟩ : ∃ j, k = j + 1 := ⟨k - 1, by omega⟩
    have hlt : i < L.length := by omega
    rw [List.drop_eq_getElem_cons hlt]
    simp only [longlineref11_Peer_Heard.l0]
    rw [if_pos (by omega), if_pos (by omega), rd_at L i hlt, w64 (by omega) (by omega)]
    have ih := heard_loop L A M y hL m (i + 1) k (by omega) (by omega)
    rw [Int.natCast_add, Int.natCast_one] at ih
    by_cases c : L[i] = y
    · rw [if_pos c, c]; simp
    · rw [if_neg c, ih, List.contains_cons, show (y == L[i]) = false from beq_eq_false_iff_ne.2 (fun e => c e.symm), Bool.false_or]
theorem heard_f (L A : List Int) (M y N at_ : Int) (hL : L.length ≤ 1000) (hn : nst L 0 0 (-1) = (N, at_)) (hN : 0 ≤ N ∧ N ≤ 9223372036854775807) (hy : 0 ≤ y) (k : Nat) (hk : 1003 ≤ k) :
    longlineref11_Peer_Heard.f k L A M y = some (hrd N at_ L y, M) := by
  unfold longlineref11_Peer_Heard.f
  rw [newest_f L A M hL k (by omega), hn]
  simp only [Option.bind_some]
  unfold hrd
  by_cases c : at_ < 0
  · rw [if_pos c, decide_eq_false (show ¬ 0 ≤ at_ by omega), Bool.false_and]
  · rw [if_neg c, decide_eq_true (show 0 ≤ at_ by omega), Bool.true_and]
    obtain ⟨k, rfl⟩ : ∃ j, k = j + 1 := ⟨k - 1, by omega⟩
    have hlp := heard_loop L A M y hL L.length 0 k (by omega) (by omega)
    rw [List.drop_zero] at hlp
    have hlp' : longlineref11_Peer_Heard.l0 k y 0 L A M = some (L.contains y, M) := hlp
    by_cases c0 : y = 0
    · rw [if_pos c0, decide_eq_true c0]
      simp only [longlineref11_Peer_Heard.j0, if_true, Bool.true_or]
    · rw [if_neg c0, decide_eq_false c0, Bool.false_or]
      by_cases c1 : y < N
      · rw [if_pos c1, decide_eq_true c1, Bool.true_and, u64w (n := N - y) (by omega) (by omega)]
        by_cases c2 : 63 < N - y
        · rw [decide_eq_true (show N - y > 63 from c2)]
          simp only [longlineref11_Peer_Heard.j0, if_true, Bool.true_or]
        · rw [decide_eq_false (show ¬ N - y > 63 from c2)]
          simp only [longlineref11_Peer_Heard.j0, Bool.false_eq_true, if_false, Bool.false_or]
          exact hlp'
      · rw [if_neg c1, decide_eq_false c1, Bool.false_and, Bool.false_or]
        simp only [longlineref11_Peer_Heard.j0, Bool.false_eq_true, if_false]
        exact hlp'

/-- The two peers tell the same. -/
structure Rel (N : Int) (b : Nat) (f : Int) (L A : List Int) (at_ : Int) : Prop where
  j : J N b f
  n : nst L 0 0 (-1) = (N, at_)
  at1 : (at_ = -1 ∧ N = 0 ∧ L = []) ∨ (0 ≤ at_ ∧ at_ < L.length ∧ 1 ≤ N ∧ rd A at_ = f)
  len : A.length = L.length
  h : ∀ y, 0 ≤ y → hd N b y = hrd N at_ L y
theorem Rel.zero : Rel 0 0 0 [] [] (-1) := ⟨.inl ⟨rfl, rfl, rfl⟩, rfl, .inl ⟨rfl, rfl, rfl⟩, rfl, fun y _ => by simp [hd, hrd]⟩

theorem rd_snoc (A : List Int) (a i : Int) (h0 : 0 ≤ i) (h : i < A.length) : rd (A ++ [a]) i = rd A i := by
  obtain ⟨j, rfl⟩ := Int.eq_ofNat_of_zero_le h0
  rw [rd_at _ j (by rw [List.length_append]; omega), rd_at _ j (by omega), List.getElem_append_left (by omega)]
theorem rd_last (A : List Int) (a : Int) : rd (A ++ [a]) (A.length : Int) = a := by
  rw [rd_at _ A.length (by simp)]
  simp

theorem hd_low_iff {N : Int} {b : Nat} {x y : Int} (h1 : x ≤ N) (h2 : N - x < 64) (h : hd N (b ||| 1 <<< (N - x).toNat) y = true) : hd N b y = true ∨ y = x := by
  simp only [hd, Bool.and_eq_true, Bool.or_eq_true, decide_eq_true_eq] at h ⊢
  obtain ⟨⟨p, q⟩, r⟩ := h
  rcases r with r | r
  · exact .inl ⟨⟨p, q⟩, .inl r⟩
  · rw [Nat.testBit_or, Bool.or_eq_true] at r
    rcases r with r | r
    · exact .inl ⟨⟨p, q⟩, .inr r⟩
    · right
      rw [Nat.testBit_shiftLeft, Bool.and_eq_true, decide_eq_true_eq] at r
      have : (N - y).toNat - (N - x).toNat = 0 := by
        have h3 := r.2
        rcases Nat.eq_zero_or_pos ((N - y).toNat - (N - x).toNat) with h | h
        · exact h
        · obtain ⟨z, hz⟩ : ∃ z, (N - y).toNat - (N - x).toNat = z + 1 := ⟨_, (Nat.succ_pred_eq_of_pos h).symm⟩
          rw [hz, Nat.testBit_succ] at h3
          simp at h3
      omega
theorem hd_up_iff {N : Int} {b : Nat} {f x y : Int} (hj : J N b f) (hx : N < x) (h : hd x (PeerFacts.up N b x) y = true) : y = x ∨ y = 0 ∨ 64 ≤ x - y ∨ hd N b y = true := by
  simp only [hd, Bool.and_eq_true, Bool.or_eq_true, decide_eq_true_eq] at h ⊢
  obtain ⟨⟨p, q⟩, r⟩ := h
  rcases r with (r | r) | r
  · exact .inr (.inl r)
  · exact .inr (.inr (.inl r))
  · unfold PeerFacts.up at r
    split at r
    · next c =>
      left
      rcases Nat.eq_zero_or_pos (x - y).toNat with h | h
      · omega
      · obtain ⟨z, hz⟩ : ∃ z, (x - y).toNat = z + 1 := ⟨_, (Nat.succ_pred_eq_of_pos h).symm⟩
        rw [hz, Nat.testBit_succ] at r
        simp at r
    · next c =>
      rw [Nat.testBit_or, Bool.or_eq_true] at r
      rcases r with r | r
      · rw [Nat.testBit_mod_two_pow, Nat.testBit_shiftLeft, Bool.and_eq_true, Bool.and_eq_true, decide_eq_true_eq, decide_eq_true_eq] at r
        obtain ⟨r1, r2, r3⟩ := r
        have hN : 1 ≤ N := by
          rcases hj with ⟨rfl, rfl, _⟩ | ⟨h, _⟩
          · simp at r3
          · exact h
        have e : (x - y).toNat - (x - N).toNat = (N - y).toNat := by omega
        rw [e] at r3
        exact .inr (.inr (.inr ⟨⟨hN, by omega⟩, .inr r3⟩))
      · left
        rcases Nat.eq_zero_or_pos (x - y).toNat with h | h
        · omega
        · obtain ⟨z, hz⟩ : ∃ z, (x - y).toNat = z + 1 := ⟨_, (Nat.succ_pred_eq_of_pos h).symm⟩
          rw [hz, Nat.testBit_succ] at r
          simp at r

/-- One word, heard by both. -/
theorem Rel.step {N : Int} {b : Nat} {f : Int} {L A : List Int} {at_ : Int} (R : Rel N b f L A at_) (mv x a : Int) (hx0 : 0 ≤ x) (k : Nat) (hk : 2 ≤ k) :
    ∃ (N' : Int) (b' : Nat) (f' at2 : Int), peer_Peer_Hear.f k true N b f mv x a = some ((hearX (hrd N at_ L x) N at_ L A mv x a).1.1, (hearX (hrd N at_ L x) N at_ L A mv x a).1.2, true, N', ((b' : Nat) : Int), f', (hearX (hrd N at_ L x) N at_ L A mv x a).2.2.2) ∧
      Rel N' b' f' (hearX (hrd N at_ L x) N at_ L A mv x a).2.1 (hearX (hrd N at_ L x) N at_ L A mv x a).2.2.1 at2 ∧ (hearX (hrd N at_ L x) N at_ L A mv x a).2.1.length ≤ L.length + 1 := by
  by_cases c1 : x = 0 ∨ 9223372036854775807 < x
  · have e : hearX (hrd N at_ L x) N at_ L A mv x a = ((false, 1), (L, A, mv)) := by unfold hearX; rw [if_pos c1]
    rw [e]
    exact ⟨N, b, f, at_, hear_bad mv x a k (by omega) (by omega), R, by show L.length ≤ _; omega⟩
  · have hh := R.h x hx0
    by_cases c2 : hrd N at_ L x = true
    · have e : hearX (hrd N at_ L x) N at_ L A mv x a = ((false, 23), (L, A, mv)) := by unfold hearX; rw [if_neg c1, if_pos c2]
      rw [e]
      exact ⟨N, b, f, at_, hear_old mv x a k R.j (by omega) (by omega) (hh.trans c2) hk, R, by show L.length ≤ _; omega⟩
    · have c2' : hrd N at_ L x = false := by simpa using c2
      have ho : hd N b x = false := hh.trans c2'
      by_cases c3 : x ≤ N
      · -- below the newest
        have hlt : x < N := by
          rcases Int.lt_or_eq_of_le c3 with h | h
          · exact h
          · exfalso
            subst h
            have hb : b.testBit 0 = true := by
              rcases R.j with ⟨h, _⟩ | ⟨_, _, _, h⟩
              · omega
              · exact h
            have : hd x b x = true := by
              simp only [hd, Bool.and_eq_true, Bool.or_eq_true, decide_eq_true_eq]
              exact ⟨⟨by omega, by omega⟩, .inr (by rw [show (x - x).toNat = 0 by omega]; exact hb)⟩
            rw [this] at ho
            exact absurd ho (by decide)
        have e : hearX (hrd N at_ L x) N at_ L A mv x a = ((false, 0), (L ++ [x], A ++ [a], mv)) := by unfold hearX; rw [if_neg c1, if_neg c2, if_pos hlt]
        rw [e]
        have hw : N - x < 64 := by
          have c : 1 ≤ N := by omega
          simp [hd, c, c3] at ho
          omega
        rcases R.at1 with ⟨_, h, _⟩ | ⟨h1, h2, h3, h4⟩
        · omega
        · refine ⟨N, b ||| 1 <<< (N - x).toNat, f, at_, hear_low mv x a k R.j (by omega) c3 ho hk, ⟨J_low R.j (by omega) c3 ho, ?_, .inr ⟨h1, ?_, h3, ?_⟩, ?_, ?_⟩, ?_⟩
          · rw [nst_snoc, R.n, if_neg (by show ¬ x > N; omega)]
          · simp only [List.length_append, List.length_singleton]; omega
          · rw [rd_snoc A a at_ h1 (by rw [R.len]; exact h2)]; exact h4
          · simp only [List.length_append, R.len]; rfl
          · intro y hy
            have hy' := R.h y hy
            have l : hd N (b ||| 1 <<< (N - x).toNat) y = (hd N b y || decide (y = x)) := by
              rw [Bool.eq_iff_iff, Bool.or_eq_true, decide_eq_true_eq]
              exact ⟨hd_low_iff c3 hw, fun h => h.elim hd_low (fun h => by rw [h]; exact hd_low_self (by omega) c3)⟩
            rw [l, hy']
            unfold hrd
            rw [Bool.eq_iff_iff]
            simp only [Bool.or_eq_true, Bool.and_eq_true, decide_eq_true_eq, List.contains_iff_mem, List.mem_append, List.mem_singleton]
            constructor
            · rintro (⟨p, q⟩ | q)
              · exact ⟨p, q.elim .inl (fun q => .inr (.inl q))⟩
              · exact ⟨h1, .inr (.inr q)⟩
            · rintro ⟨p, q | q | q⟩
              · exact .inl ⟨p, .inl q⟩
              · exact .inl ⟨p, .inr q⟩
              · exact .inr q
          · simp
      · -- above it
        have hN := R.j.bd
        have e : hearX (hrd N at_ L x) N at_ L A mv x a = ((decide (1 ≤ N) == false || f != a, 0), (L ++ [x], A ++ [a], if 1 ≤ N ∧ ¬ f = a then wrap64 (mv + 1) else mv)) := by
          unfold hearX
          rw [if_neg c1, if_neg c2, if_neg (show ¬ x < N by omega)]
          rcases R.at1 with ⟨h0, h, _⟩ | ⟨h1, h2, h3, h4⟩
          · rw [if_neg (show ¬ 0 ≤ at_ by omega), h]; rfl
          · rw [if_pos h1, rd_snoc A a at_ h1 (by rw [R.len]; exact h2), h4]
            by_cases c : f = a
            · rw [if_pos c, c]; simp [h3]
            · rw [if_neg c, if_pos ⟨h3, c⟩]; simp [h3, c]
        rw [e]
        refine ⟨x, PeerFacts.up N b x, a, (L.length : Int), hear_new mv x a k R.j (by omega) (by omega) (by omega) hk, ⟨(J_up (N := N) (b := b) (f := f) a (by omega) (by omega)).1, ?_, .inr ⟨by omega, ?_, by omega, ?_⟩, ?_, ?_⟩, ?_⟩
        · rw [nst_snoc, R.n, if_pos (by show x > N; omega)]; simp
        · simp only [List.length_append, List.length_singleton]; omega
        · rw [← R.len]; exact rd_last A a
        · simp only [List.length_append, R.len]; rfl
        · intro y hy
          unfold hrd
          rw [Bool.eq_iff_iff]
          simp only [Bool.or_eq_true, Bool.and_eq_true, decide_eq_true_eq, List.contains_iff_mem, List.mem_append, List.mem_singleton]
          have hy' := R.h y hy
          constructor
          · intro h
            refine ⟨by omega, ?_⟩
            rcases hd_up_iff R.j (by omega) h with h | h | h | h
            · exact .inr (.inr h)
            · exact .inl (.inl h)
            · exact .inl (.inr ⟨by omega, by omega⟩)
            · rw [hy'] at h
              unfold hrd at h
              simp only [Bool.or_eq_true, Bool.and_eq_true, decide_eq_true_eq, List.contains_iff_mem] at h
              rcases h.2 with (h | h) | h
              · exact .inl (.inl h)
              · exact .inl (.inr ⟨by omega, by omega⟩)
              · exact .inr (.inl h)
          · rintro ⟨p, (q | q) | q | q⟩
            · rw [q]; simp only [hd, Bool.and_eq_true, Bool.or_eq_true, decide_eq_true_eq]; exact ⟨⟨by omega, by omega⟩, .inl (.inl trivial)⟩
            · simp only [hd, Bool.and_eq_true, Bool.or_eq_true, decide_eq_true_eq]; exact ⟨⟨by omega, by omega⟩, .inl (.inr (by omega))⟩
            · refine hd_up (by omega) ?_
              rw [hy']
              unfold hrd
              simp only [Bool.or_eq_true, Bool.and_eq_true, decide_eq_true_eq, List.contains_iff_mem]
              rcases R.at1 with ⟨_, _, h⟩ | ⟨h1, _⟩
              · rw [h] at q; simp at q
              · exact ⟨h1, .inr q⟩
            · rw [q]; exact hd_up_self (by omega)
        · simp
end Go.Proofs.Ytgefndjbcabioaa.PX
