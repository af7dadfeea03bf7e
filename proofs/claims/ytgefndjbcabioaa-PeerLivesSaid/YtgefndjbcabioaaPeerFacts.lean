/- What the peer's printed functions come to: plain facts for the laws of peer. -/
import Derived.Test.YtgefndjbcabioaaQPeerx3
import Derived.OpenShut
import Derived.Laws.BitsAllLaws
import Derived.KernelRfl
namespace Go.Proofs.Ytgefndjbcabioaa.PeerFacts
open Go.RowKit Go.Proofs.Ytgefndjbcabioaa.QPeer Go.Proofs.YtgefndjbcabioaaW.PrintWords Go.Proofs.YtgefndjbcabioaaW.PrintLast Go.Proofs.YtgefndjbcabioaaW.PrintMore

theorem w64 {n : Int} (h0 : -9223372036854775808 ≤ n) (h1 : n < 9223372036854775808) : wrap64 n = n := by unfold wrap64; omega
theorem u64w {n : Int} (h0 : 0 ≤ n) (h1 : n ≤ 18446744073709551615) : IntKind.u64.wrap n = n := by rw [IntKind.wrap_u64]; omega

theorem test_bit (b d : Nat) (hb : b < 2 ^ 64) (hd : d < 64) : ((Go.bits .and .u64 (shr .u64 (b : Int) (d : Int)) 1) == 1) = b.testBit d := by
  have e : shr .u64 (b : Int) (d : Int) = ((b >>> d : Nat) : Int) := by
    unfold shr
    rw [Int.toNat_natCast, Nat.min_eq_left (show d ≤ IntKind.u64.bits from by show d ≤ 64; omega), Nat.shiftRight_eq_div_pow]
    simp
  have hs : b >>> d < 18446744073709551616 := by
    rw [Nat.shiftRight_eq_div_pow]
    exact Nat.lt_of_le_of_lt (Nat.div_le_self _ _) hb
  rw [e, show (1 : Int) = ((1 : Nat) : Int) from rfl, Go.u64_and_nat _ 1 hs (by omega), Nat.testBit, Nat.and_comm]
  have : 1 &&& b >>> d = 0 ∨ 1 &&& b >>> d = 1 := by
    have := Nat.and_le_left (n := 1) (m := b >>> d)
    omega
  rcases this with h | h <;> rw [h] <;> rfl

theorem or_bit (b d : Nat) (hb : b < 2 ^ 64) (hd : d < 64) : Go.bits .or .u64 (b : Int) (shl .u64 1 (d : Int)) = ((b ||| 1 <<< d : Nat) : Int) := by
  have hp : (2 : Nat) ^ d ≤ 2 ^ 63 := Nat.pow_le_pow_right (by omega) (by omega)
  have e : shl .u64 1 (d : Int) = ((1 <<< d : Nat) : Int) := by
    unfold shl
    rw [Int.toNat_natCast, Nat.min_eq_left (show d ≤ IntKind.u64.bits from by show d ≤ 64; omega), IntKind.wrap_u64, Nat.one_shiftLeft]
    have h2 : ((2 ^ d : Nat) : Int) = (2 : Int) ^ d := by simp
    rw [← h2, Int.one_mul]; generalize 2 ^ d = z at *; omega
  rw [e, Go.u64_or_nat _ _ hb (by rw [Nat.one_shiftLeft]; omega)]

theorem shl_bits (b u : Nat) (hu : u < 64) : Go.bits .or .u64 (shl .u64 (b : Int) (u : Int)) 1 = (((b <<< u) % 2 ^ 64 ||| 1 : Nat) : Int) := by
  have e : shl .u64 (b : Int) (u : Int) = (((b <<< u) % 2 ^ 64 : Nat) : Int) := by
    unfold shl
    rw [Int.toNat_natCast, Nat.min_eq_left (show u ≤ IntKind.u64.bits from by show u ≤ 64; omega), IntKind.wrap_u64, Nat.shiftLeft_eq]
    have h2 : ((2 ^ u : Nat) : Int) = (2 : Int) ^ u := by simp
    rw [← h2]; omega
  rw [e, show (1 : Int) = ((1 : Nat) : Int) from rfl, Go.u64_or_nat _ 1 (Nat.mod_lt _ (by decide)) (by omega)]

theorem or_01 : Go.bits .or .u64 0 1 = ((1 : Nat) : Int) := by decide +kernel

/-- What was heard: nothing, or a greatest nonce whose own bit is set. -/
def J (N : Int) (b : Nat) (f : Int) : Prop := N = 0 ∧ b = 0 ∧ f = 0 ∨ 1 ≤ N ∧ N ≤ 9223372036854775807 ∧ b < 2 ^ 64 ∧ b.testBit 0 = true

/-- Was a nonce heard? -/
def hd (N : Int) (b : Nat) (x : Int) : Bool := decide (1 ≤ N) && decide (x ≤ N) && (decide (x = 0) || decide (64 ≤ N - x) || b.testBit (N - x).toNat)

theorem J.lt {N : Int} {b : Nat} {f : Int} (h : J N b f) : b < 2 ^ 64 := by
  rcases h with ⟨_, rfl, _⟩ | ⟨_, _, h, _⟩
  · decide
  · exact h
theorem J.bd {N : Int} {b : Nat} {f : Int} (h : J N b f) : 0 ≤ N ∧ N ≤ 9223372036854775807 := by rcases h with ⟨rfl, _⟩ | ⟨h1, h2, _⟩ <;> omega

theorem some_eq {N : Int} {b : Nat} {f : Int} (h : J N b f) : (!(N == 0) || (!((b : Int) == 0) || (!(f == 0)))) = decide (1 ≤ N) := by
  rcases h with ⟨rfl, rfl, rfl⟩ | ⟨h1, _⟩
  · rfl
  · rw [decide_eq_true h1, show (N == 0) = false from by simpa using (by omega : ¬ N = 0)]; rfl

theorem heard_eq {N : Int} {b : Nat} {f : Int} (mv x : Int) (k : Nat) (h : J N b f) (hx0 : 0 ≤ x) (hk : 1 ≤ k) :
    peer_Peer_Heard.f k true N b f mv x = some (hd N b x, true, N, (b : Int), f, mv) := by
  obtain ⟨k, rfl⟩ : ∃ j, k = j + 1 := ⟨k - 1, by omega⟩
  have hbd := h.bd
  simp only [peer_Peer_Heard.f, peer_Peer_heard.f, Option.bind_some]; rw [some_eq h]
  by_cases c : 1 ≤ N
  · rw [if_pos (decide_eq_true c)]
    by_cases c1 : x ≤ N
    · rw [decide_eq_false (show ¬ x > N by omega)]
      simp only [peer_Peer_Heard.j0, Bool.false_eq_true, if_false]
      by_cases c2 : x = 0
      · rw [if_pos c2]; subst c2; simp [hd, c]; omega
      · rw [if_neg c2, u64w (n := N - x) (by omega) (by omega)]
        by_cases c3 : N - x ≥ 64
        · rw [if_pos c3]; simp [hd, c, c1, show 64 ≤ N - x from c3]
        · obtain ⟨d, hdd⟩ := Int.eq_ofNat_of_zero_le (show 0 ≤ N - x by omega)
          rw [if_neg c3, if_pos (by omega)]
          have : hd N b x = b.testBit d := by
            have c4 : ¬ ((64 : Int) ≤ (d : Int)) := by omega
            simp [hd, c, c1, c2, hdd, c4]
          rw [this, hdd, test_bit b d h.lt (by omega)]
    · rw [decide_eq_true (show x > N by omega)]
      simp only [peer_Peer_Heard.j0, if_true]
      simp [hd, c1]
  · rw [if_neg (by simpa using c)]
    simp only [peer_Peer_Heard.j0, if_true]
    simp [hd, c]

theorem from_eq {N : Int} {b : Nat} {f : Int} (mv : Int) (h : J N b f) : peer_Peer_From.f true N b f mv = some (f, decide (1 ≤ N), true, N, (b : Int), f, mv) := by
  simp only [peer_Peer_From.f, peer_Peer_heard.f, Option.bind_some]; rw [some_eq h]
  by_cases c : 1 ≤ N
  · rw [if_pos (decide_eq_true c), decide_eq_true c]
  · rw [if_neg (by simpa using c), decide_eq_false c]
    rcases h with ⟨_, _, rfl⟩ | ⟨h1, _⟩
    · rfl
    · omega

/-- The bits behind a new greatest nonce. -/
def up (N : Int) (b : Nat) (x : Int) : Nat := if 64 ≤ x - N then 1 else (b <<< (x - N).toNat) % 2 ^ 64 ||| 1

theorem hear_bad {N : Int} {b : Nat} {f : Int} (mv x a : Int) (k : Nat) (hx : x < 1 ∨ 9223372036854775807 < x) (hk : 1 ≤ k) :
    peer_Peer_Hear.f k true N b f mv x a = some (false, 1, true, N, (b : Int), f, mv) := by
  obtain ⟨k, rfl⟩ : ∃ j, k = j + 1 := ⟨k - 1, by omega⟩
  simp only [peer_Peer_Hear.f, if_true]
  by_cases c : x < 1
  · rw [if_pos c]; simp only [peer_Peer_Hear.j0, if_true]
  · rw [if_neg c, decide_eq_true (show x > 9223372036854775807 by omega)]; simp only [peer_Peer_Hear.j0, if_true]

theorem hear_old {N : Int} {b : Nat} {f : Int} (mv x a : Int) (k : Nat) (h : J N b f) (h0 : 1 ≤ x) (h1 : x ≤ 9223372036854775807) (ho : hd N b x = true) (hk : 2 ≤ k) :
    peer_Peer_Hear.f k true N b f mv x a = some (false, 23, true, N, (b : Int), f, mv) := by
  obtain ⟨k, rfl⟩ : ∃ j, k = j + 1 := ⟨k - 1, by omega⟩
  simp only [peer_Peer_Hear.f, if_true]; rw [if_neg (by omega), decide_eq_false (show ¬ x > 9223372036854775807 by omega)]
  simp only [peer_Peer_Hear.j0, Bool.false_eq_true, if_false]; rw [heard_eq mv x k h (by omega) (by omega)]
  simp only [Option.bind_some]; rw [if_pos ho]

theorem hear_low {N : Int} {b : Nat} {f : Int} (mv x a : Int) (k : Nat) (h : J N b f) (h0 : 1 ≤ x) (h1 : x ≤ N) (ho : hd N b x = false) (hk : 2 ≤ k) :
    peer_Peer_Hear.f k true N b f mv x a = some (false, (0 : Int), true, N, ((b ||| 1 <<< (N - x).toNat : Nat) : Int), f, mv) := by
  obtain ⟨k, rfl⟩ : ∃ j, k = j + 1 := ⟨k - 1, by omega⟩
  have hbd := h.bd
  have hlt : N - x < 64 := by
    have c : 1 ≤ N := by omega
    simp [hd, c, h1] at ho
    omega
  simp only [peer_Peer_Hear.f, if_true]; rw [if_neg (by omega), decide_eq_false (show ¬ x > 9223372036854775807 by omega)]
  simp only [peer_Peer_Hear.j0, Bool.false_eq_true, if_false]; rw [heard_eq mv x k h (by omega) (by omega)]
  simp only [Option.bind_some]; rw [ho, if_neg (by decide), if_pos h1, u64w (n := N - x) (by omega) (by omega), if_pos (by omega)]
  obtain ⟨d, hdd⟩ := Int.eq_ofNat_of_zero_le (show 0 ≤ N - x by omega)
  rw [hdd, or_bit b d h.lt (by omega)]; rfl

theorem hear_new {N : Int} {b : Nat} {f : Int} (mv x a : Int) (k : Nat) (h : J N b f) (h0 : 1 ≤ x) (h1 : x ≤ 9223372036854775807) (hx : N < x) (hk : 2 ≤ k) :
    peer_Peer_Hear.f k true N b f mv x a = some (decide (1 ≤ N) == false || f != a, 0, true, x, (up N b x : Int), a, if 1 ≤ N ∧ ¬ f = a then wrap64 (mv + 1) else mv) := by
  obtain ⟨k, rfl⟩ : ∃ j, k = j + 1 := ⟨k - 1, by omega⟩
  have hbd := h.bd
  have ho : hd N b x = false := by simp [hd, show ¬ x ≤ N by omega]
  simp only [peer_Peer_Hear.f, if_true]; rw [if_neg (by omega), decide_eq_false (show ¬ x > 9223372036854775807 by omega)]
  simp only [peer_Peer_Hear.j0, Bool.false_eq_true, if_false]; rw [heard_eq mv x k h (by omega) (by omega)]
  simp only [Option.bind_some]; rw [ho, if_neg (by decide), if_neg (by omega), from_eq mv h]
  simp only [Option.bind_some]; rw [u64w (n := x - N) (by omega) (by omega), or_01]
  obtain ⟨u, hu⟩ := Int.eq_ofNat_of_zero_le (show 0 ≤ x - N by omega)
  by_cases c : x - N ≥ 64
  · have eu : up N b x = 1 := by unfold up; rw [if_pos c]
    rw [if_pos c, eu]
    by_cases c1 : 1 ≤ N
    · rw [decide_eq_true c1, if_pos rfl]
      by_cases c2 : f = a
      · rw [if_pos c2]; simp [c2]
      · rw [if_neg c2]; simp [c1, c2]
    · rw [decide_eq_false c1, if_neg (by decide)]; simp [c1]
  · have eu : up N b x = (b <<< u) % 2 ^ 64 ||| 1 := by unfold up; rw [if_neg c, hu]; rfl
    rw [if_neg c, if_pos (by omega), eu, hu, shl_bits b u (by omega)]
    by_cases c1 : 1 ≤ N
    · rw [decide_eq_true c1, if_pos rfl]
      by_cases c2 : f = a
      · rw [if_pos c2]; simp [c2]
      · rw [if_neg c2]; simp [c1, c2]
    · rw [decide_eq_false c1, if_neg (by decide)]; simp [c1]

/-! What was heard stays heard. -/
theorem J_low {N : Int} {b : Nat} {f : Int} {x : Int} (h : J N b f) (h0 : 1 ≤ x) (h1 : x ≤ N) (ho : hd N b x = false) : J N (b ||| 1 <<< (N - x).toNat) f := by
  have hlt : N - x < 64 := by
    have c : 1 ≤ N := by omega
    simp [hd, c, h1] at ho
    omega
  rcases h with ⟨rfl, _⟩ | ⟨a, b', c, d⟩
  · omega
  · refine .inr ⟨a, b', ?_, ?_⟩
    · have hp : (2 : Nat) ^ (N - x).toNat ≤ 2 ^ 63 := Nat.pow_le_pow_right (by omega) (by omega)
      exact Nat.or_lt_two_pow c (by rw [Nat.one_shiftLeft]; omega)
    · rw [Nat.testBit_or, d]; rfl
theorem J_up {N : Int} {b : Nat} {f : Int} {x : Int} (a : Int) (h0 : 1 ≤ x) (h1 : x ≤ 9223372036854775807) : J x (up N b x) a ∧ (f = f) := by
  refine ⟨.inr ⟨h0, h1, ?_, ?_⟩, rfl⟩
  · unfold up; split
    · decide
    · exact Nat.or_lt_two_pow (Nat.mod_lt _ (by decide)) (by decide)
  · unfold up; split
    · rfl
    · rw [Nat.testBit_or]; simp
theorem hd_low {N : Int} {b : Nat} {x y : Int} (h : hd N b y = true) : hd N (b ||| 1 <<< (N - x).toNat) y = true := by
  simp only [hd, Bool.and_eq_true, Bool.or_eq_true, decide_eq_true_eq] at h ⊢
  refine ⟨h.1, ?_⟩
  rcases h.2 with h | h
  · exact .inl h
  · exact .inr (by rw [Nat.testBit_or, h]; rfl)
theorem hd_low_self {N : Int} {b : Nat} {x : Int} (h0 : 1 ≤ x) (h1 : x ≤ N) : hd N (b ||| 1 <<< (N - x).toNat) x = true := by
  simp only [hd, Bool.and_eq_true, Bool.or_eq_true, decide_eq_true_eq]
  refine ⟨⟨by omega, h1⟩, .inr ?_⟩
  rw [Nat.testBit_or, Nat.testBit_shiftLeft]; simp
theorem hd_up {N : Int} {b : Nat} {x y : Int} (hx : N < x) (h : hd N b y = true) : hd x (up N b x) y = true := by
  simp only [hd, Bool.and_eq_true, Bool.or_eq_true, decide_eq_true_eq] at h ⊢
  obtain ⟨⟨h1, h2⟩, h3⟩ := h
  refine ⟨⟨by omega, by omega⟩, ?_⟩
  rcases h3 with (h3 | h3) | h3
  · exact .inl (.inl h3)
  · exact .inl (.inr (by omega))
  · by_cases c : 64 ≤ x - y
    · exact .inl (.inr c)
    · refine .inr ?_
      unfold up; rw [if_neg (by omega), Nat.testBit_or, Nat.testBit_mod_two_pow, Nat.testBit_shiftLeft, show (x - y).toNat - (x - N).toNat = (N - y).toNat by omega, h3]
      simp; omega
theorem hd_up_self {N : Int} {b : Nat} {x : Int} (h0 : 1 ≤ x) : hd x (up N b x) x = true := by
  simp only [hd, Bool.and_eq_true, Bool.or_eq_true, decide_eq_true_eq]
  refine ⟨⟨h0, by omega⟩, .inr ?_⟩
  rw [show (x - x).toNat = 0 by omega]
  unfold up; split
  · rfl
  · rw [Nat.testBit_or]; simp

theorem alive_eq {k : Nat} (hk : 10 ≤ k) : longlinelaw11_alive.f k = some true :=
  at_rounds (g := longlinelaw11_alive.f) (fun k => longlinelaw11_alive.mono k) hk (by kernel_rfl)

theorem rd_mem {l : List S32} {i : Int} (h0 : 0 ≤ i) (h : i < (l.length : Int)) : rd_T32 l i ∈ l := by
  have hn : i.toNat < l.length := by omega
  unfold rd_T32
  rw [List.getD_eq_getElem?_getD, List.getElem?_eq_getElem hn]
  exact List.getElem_mem hn
end Go.Proofs.Ytgefndjbcabioaa.PeerFacts
