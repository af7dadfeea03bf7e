import Derived.Test.YtdnkclccjgcelaaBW
import Derived.Lib.OthersKept
import Derived.Laws.RangeAny
set_option linter.unusedVariables false
namespace Go.Proofs.YtdnkclccjgcelaaBE
open Go.RowKit Go.Proofs.YtdnkclccjgcelaaW.PrintWords Go.Proofs.YtdnkclccjgcelaaW.PrintLast Go.Proofs.YtdnkclccjgcelaaW.PrintMore
open Go.Proofs.YtdnkclccjgcelaaBW (LET)

def val (c : Int) : Int := Lib.indexByte LET.data.toList c.toNat.toUInt8

set_option maxHeartbeats 1000000 in
set_option maxRecDepth 100000 in
theorem base_value.calls (c : Int) (w : World) : Calls Try.prog 29 #[.int .u8 c] w fun e w' => e = .returned (.int .i64 (val c)) ∧ w' = w := by
  go_enter Try.func29, Try.ntmps29
  go_wp2_with (go_at_call 38; refine (Try.strings_IndexByte _ _ _).mono ?_; rintro e w' ⟨rfl, rfl⟩)
  go_ret
  exact ⟨rfl, rfl⟩

def idx : List UInt8 → UInt8 → Nat → Int
  | [], _, _ => -1
  | b :: l, c, n => if b == c then (n : Int) else idx l c (n + 1)
theorem idx_eq (l : List UInt8) (c : UInt8) : ∀ n : Nat, idx l c n = if Lib.indexByte l c = -1 then -1 else Lib.indexByte l c + (n : Int) := by
  induction l with
  | nil => intro n; simp [idx, Lib.indexByte]
  | cons b l ih =>
    intro n
    have hge := Lib.indexByte_ge l c
    unfold idx Lib.indexByte
    by_cases hb : (b == c) = true
    · simp [hb]
    · simp only [hb, ih]
      by_cases hi : Lib.indexByte l c = -1
      · simp [hi]
      · simp [hi]
        rw [if_neg (by omega)]
        omega
theorem indexByte_idx (l : List UInt8) (c : UInt8) : Lib.indexByte l c = idx l c 0 := by
  rw [idx_eq]
  split
  · assumption
  · simp
theorem val_idx (c : Int) : val c = idx LET.data.toList c.toNat.toUInt8 0 := indexByte_idx _ _
theorem val_high_all : ((List.range 256).all fun n => decide (n < 128) || decide (idx LET.data.toList n.toUInt8 0 < 0)) = true := by decide +kernel
theorem val_high (c : UInt8) (h : 128 ≤ c.toNat) : val c.toNat < 0 := by
  have := List.all_eq_true.1 val_high_all c.toNat (List.mem_range.2 c.toNat_lt)
  rw [val_idx]
  simp only [Bool.or_eq_true, decide_eq_true_eq] at this
  rcases this with h1 | h1
  · omega
  · simpa using h1

def badAt (s : ByteArray) (i : Int) : Bool :=
  if i = 3 then decide (bt s 2 = 61 ∧ bt s 3 ≠ 61) || decide (bt s 2 ≠ 61 ∧ bt s 3 ≠ 61 ∧ val (bt s 3) < 0)
  else if i = 2 then decide (bt s 2 = 61 ∧ bits .and .i64 (val (bt s 1)) 15 ≠ 0) || decide (bt s 2 ≠ 61 ∧ val (bt s 2) < 0)
  else decide (val (bt s i) < 0)
def endsT (s : ByteArray) : Int := if s.size = 4 ∧ bt s 3 = 61 ∧ bt s 2 ≠ 61 ∧ bits .and .i64 (val (bt s 2)) 3 ≠ 0 then 3 else -1
def endsL (s : ByteArray) : Nat → Int → Int
  | 0, _ => endsT s
  | k + 1, i => if i < s.size then (if badAt s i then i else endsL s k (i + 1)) else endsT s

theorem bt_get (s : ByteArray) (i : Nat) (h : i < s.size) : bt s (i : Int) = ((s[i]'h).toNat : Int) := (bt_at s (i : Int) (by simpa using h)).symm
theorem low_of (s : ByteArray) (i : Nat) (h : i < s.size) (hv : 0 ≤ val (bt s (i : Int)) ∨ bt s (i : Int) = 61) : (s[i]'h).toNat < 128 := by
  rw [bt_get s i h] at hv
  rcases hv with hv | hv
  · rcases Nat.lt_or_ge (s[i]'h).toNat 128 with hl | hl
    · exact hl
    · have := val_high _ hl
      omega
  · omega
theorem step1 (s : ByteArray) (i : Nat) (h : i < s.size) (hv : 0 ≤ val (bt s (i : Int)) ∨ bt s (i : Int) = 61) : (Utf8.decode s i).2 = 1 := by
  rw [decode_ascii s i h (low_of s i h hv)]

set_option maxHeartbeats 4000000 in
set_option maxRecDepth 100000 in
theorem base_ends.calls (s : ByteArray) (w : World) (hs4 : s.size ≤ 4) : Calls Try.prog 31 #[.string s] w fun e w' => e = .returned (.int .i64 (endsL s 4 0)) ∧ Below w.heap.size w w' := by
  go_enter Try.func31, Try.ntmps31
  go_wp2
  go_loopg [3] 6 (fun kq v3 w' => ∃ (i : Nat), Aside0 (i + kq = 6 ∧ i ≤ 4 ∧ i ≤ s.size) ∧ Aside0 (endsL s 4 0 = endsL s (4 - i) i) ∧ Aside0 (w'.heap[w.heap.size]? = some (.stringIter s i)) ∧ Aside0 (Below w.heap.size w w'))
  case atStart => exact ⟨0, ⟨by omega⟩, ⟨rfl⟩, ⟨World.iter_heap w s 0⟩, ⟨below_alloc (Below.refl _ _) _⟩⟩
  case round =>
    obtain ⟨i, hi, hE, hk, HB⟩ := hrel
    by_cases hlt : i < s.size
    · obtain ⟨p, hp⟩ : ∃ p, p = i + (Utf8.decode s i).2 := ⟨_, rfl⟩
      have hnx : ∀ ty, (Instr.next (.pointer (some ⟨w.heap.size, 0, none⟩)) true ty).run Try.prog wr = .ok (.tuple #[.bool true, .int .i64 i, .int .i32 (Utf8.decode s i).1]) (wr.iterAt w.heap.size s p) := fun ty => by rw [hp]; exact Lib.run_next_any_at wr w.heap.size s i ty hk.out hlt
      have HB1 := Aside0.mk (Lib.below_iterAt HB.out (Nat.le_refl w.heap.size) s p)
      have hk1 := Aside0.mk (Lib.iterAt_heap wr w.heap.size s i p hk.out)
      have hp' := Aside0.mk hp
      clear hp
      have hE1 : endsL s (4 - i) i = (if badAt s i then (i : Int) else endsL s (4 - (i + 1)) ((i + 1 : Nat) : Int)) := by
        obtain ⟨m, hm⟩ : ∃ m, 4 - i = m + 1 := ⟨4 - (i + 1), by omega⟩
        rw [hm, show 4 - (i + 1) = m by omega]
        simp only [endsL]
        rw [if_pos (by omega)]
        rfl
      rw [hE1] at hE
      have hE2 := Aside0.mk hE.out
      clear hE hE1 hk HB
      obtain rfl | rfl | rfl | rfl : i = 0 ∨ i = 1 ∨ i = 2 ∨ i = 3 := by omega
      · by_cases cv : val (bt s 0) < 0
        · have c_ : decide (val (bt s 0) < 0) = true := decide_eq_true cv
          have hx0 : ∀ h : 0 < s.size, ((s[0]'h).toNat : Int) = bt s 0 := fun h => bt_at s 0 h
          have q0 : 0 < s.size := by omega
          go_wp2_with (go_at_call 29; refine (base_value.calls _ _).mono ?_; rintro e w' ⟨rfl, rfl⟩)
          go_ret
          refine ⟨?_, HB1.out⟩
          rw [hE2.out, if_pos (by simp [badAt, cv])]
          rfl
        · have c_ : decide (val (bt s 0) < 0) = false := decide_eq_false cv
          have hx0 : ∀ h : 0 < s.size, ((s[0]'h).toNat : Int) = bt s 0 := fun h => bt_at s 0 h
          have q0 : 0 < s.size := by omega
          obtain rfl : p = 1 := by rw [hp'.out, step1 s 0 hlt (Or.inl (Int.not_lt.1 cv))]
          go_wp2_with (go_at_call 29; refine (base_value.calls _ _).mono ?_; rintro e w' ⟨rfl, rfl⟩)
          go_roundg (5 - 0)
          case measure => have := hi.out; omega
          case rel => exact ⟨1, ⟨by omega⟩, ⟨by rw [hE2.out, if_neg (by simp [badAt, cv])]⟩, hk1, HB1⟩
      · by_cases cv : val (bt s 1) < 0
        · have c_ : decide (val (bt s 1) < 0) = true := decide_eq_true cv
          have hx1 : ∀ h : 1 < s.size, ((s[1]'h).toNat : Int) = bt s 1 := fun h => bt_at s 1 h
          have q1 : 1 < s.size := by omega
          go_wp2_with (go_at_call 29; refine (base_value.calls _ _).mono ?_; rintro e w' ⟨rfl, rfl⟩)
          go_ret
          refine ⟨?_, HB1.out⟩
          rw [hE2.out, if_pos (by simp [badAt, cv])]
          rfl
        · have c_ : decide (val (bt s 1) < 0) = false := decide_eq_false cv
          have hx1 : ∀ h : 1 < s.size, ((s[1]'h).toNat : Int) = bt s 1 := fun h => bt_at s 1 h
          have q1 : 1 < s.size := by omega
          obtain rfl : p = 2 := by rw [hp'.out, step1 s 1 hlt (Or.inl (Int.not_lt.1 cv))]
          go_wp2_with (go_at_call 29; refine (base_value.calls _ _).mono ?_; rintro e w' ⟨rfl, rfl⟩)
          go_roundg (5 - 1)
          case measure => have := hi.out; omega
          case rel => exact ⟨2, ⟨by omega⟩, ⟨by rw [hE2.out, if_neg (by simp [badAt, cv])]⟩, hk1, HB1⟩
      · by_cases c2 : bt s 2 = 61
        · by_cases c1 : bits .and .i64 (val (bt s 1)) 15 = 0
          · have c1_0 : (bits .and .i64 (val (bt s 1)) 15 != 0) = false := by simp [c1]
            have c2_0 : (bt s 2 == 61) = true := by simp [c2]
            have c2_1 : (bt s 2 != 61) = false := by simp [c2]
            have hx1 : ∀ h : 1 < s.size, ((s[1]'h).toNat : Int) = bt s 1 := fun h => bt_at s 1 h
            have q1 : 1 < s.size := by omega
            have hx2 : ∀ h : 2 < s.size, ((s[2]'h).toNat : Int) = bt s 2 := fun h => bt_at s 2 h
            have q2 : 2 < s.size := by omega
            obtain rfl : p = 3 := by rw [hp'.out, step1 s 2 hlt (Or.inr c2)]
            go_wp2_with (go_at_call 29; refine (base_value.calls _ _).mono ?_; rintro e w' ⟨rfl, rfl⟩)
            go_roundg (5 - 2)
            case measure => have := hi.out; omega
            case rel => exact ⟨3, ⟨by omega⟩, ⟨by rw [hE2.out, if_neg (by simp [badAt, c1, c2])]⟩, hk1, HB1⟩
          · have c1_0 : (bits .and .i64 (val (bt s 1)) 15 != 0) = true := by simp [c1]
            have c2_0 : (bt s 2 == 61) = true := by simp [c2]
            have c2_1 : (bt s 2 != 61) = false := by simp [c2]
            have hx1 : ∀ h : 1 < s.size, ((s[1]'h).toNat : Int) = bt s 1 := fun h => bt_at s 1 h
            have q1 : 1 < s.size := by omega
            have hx2 : ∀ h : 2 < s.size, ((s[2]'h).toNat : Int) = bt s 2 := fun h => bt_at s 2 h
            have q2 : 2 < s.size := by omega
            go_wp2_with (go_at_call 29; refine (base_value.calls _ _).mono ?_; rintro e w' ⟨rfl, rfl⟩)
            go_ret
            refine ⟨?_, HB1.out⟩
            rw [hE2.out, if_pos (by simp [badAt, c1, c2])]
            rfl
        · by_cases cv : val (bt s 2) < 0
          · have c_ : decide (val (bt s 2) < 0) = true := decide_eq_true cv
            have c2_0 : (bt s 2 == 61) = false := by simp [c2]
            have c2_1 : (bt s 2 != 61) = true := by simp [c2]
            have hx1 : ∀ h : 1 < s.size, ((s[1]'h).toNat : Int) = bt s 1 := fun h => bt_at s 1 h
            have q1 : 1 < s.size := by omega
            have hx2 : ∀ h : 2 < s.size, ((s[2]'h).toNat : Int) = bt s 2 := fun h => bt_at s 2 h
            have q2 : 2 < s.size := by omega
            go_wp2_with (go_at_call 29; refine (base_value.calls _ _).mono ?_; rintro e w' ⟨rfl, rfl⟩)
            go_ret
            refine ⟨?_, HB1.out⟩
            rw [hE2.out, if_pos (by simp [badAt, cv, c2])]
            rfl
          · have c_ : decide (val (bt s 2) < 0) = false := decide_eq_false cv
            have c2_0 : (bt s 2 == 61) = false := by simp [c2]
            have c2_1 : (bt s 2 != 61) = true := by simp [c2]
            have hx1 : ∀ h : 1 < s.size, ((s[1]'h).toNat : Int) = bt s 1 := fun h => bt_at s 1 h
            have q1 : 1 < s.size := by omega
            have hx2 : ∀ h : 2 < s.size, ((s[2]'h).toNat : Int) = bt s 2 := fun h => bt_at s 2 h
            have q2 : 2 < s.size := by omega
            obtain rfl : p = 3 := by rw [hp'.out, step1 s 2 hlt (Or.inl (Int.not_lt.1 cv))]
            go_wp2_with (go_at_call 29; refine (base_value.calls _ _).mono ?_; rintro e w' ⟨rfl, rfl⟩)
            go_roundg (5 - 2)
            case measure => have := hi.out; omega
            case rel => exact ⟨3, ⟨by omega⟩, ⟨by rw [hE2.out, if_neg (by simp [badAt, cv, c2])]⟩, hk1, HB1⟩
      · by_cases c3 : bt s 3 = 61
        · by_cases c2 : bt s 2 = 61
          · skip
            have c3_0 : (bt s 3 == 61) = true := by simp [c3]
            have c3_1 : (bt s 3 != 61) = false := by simp [c3]
            have c2_0 : (bt s 2 == 61) = true := by simp [c2]
            have c2_1 : (bt s 2 != 61) = false := by simp [c2]
            have hx2 : ∀ h : 2 < s.size, ((s[2]'h).toNat : Int) = bt s 2 := fun h => bt_at s 2 h
            have q2 : 2 < s.size := by omega
            have hx3 : ∀ h : 3 < s.size, ((s[3]'h).toNat : Int) = bt s 3 := fun h => bt_at s 3 h
            have q3 : 3 < s.size := by omega
            obtain rfl : p = 4 := by rw [hp'.out, step1 s 3 hlt (Or.inr c3)]
            go_wp2_with (go_at_call 29; refine (base_value.calls _ _).mono ?_; rintro e w' ⟨rfl, rfl⟩)
            go_roundg (5 - 3)
            case measure => have := hi.out; omega
            case rel => exact ⟨4, ⟨by omega⟩, ⟨by rw [hE2.out, if_neg (by simp [badAt, c2, c3])]⟩, hk1, HB1⟩
          · skip
            have c3_0 : (bt s 3 == 61) = true := by simp [c3]
            have c3_1 : (bt s 3 != 61) = false := by simp [c3]
            have c2_0 : (bt s 2 == 61) = false := by simp [c2]
            have c2_1 : (bt s 2 != 61) = true := by simp [c2]
            have hx2 : ∀ h : 2 < s.size, ((s[2]'h).toNat : Int) = bt s 2 := fun h => bt_at s 2 h
            have q2 : 2 < s.size := by omega
            have hx3 : ∀ h : 3 < s.size, ((s[3]'h).toNat : Int) = bt s 3 := fun h => bt_at s 3 h
            have q3 : 3 < s.size := by omega
            obtain rfl : p = 4 := by rw [hp'.out, step1 s 3 hlt (Or.inr c3)]
            go_wp2_with (go_at_call 29; refine (base_value.calls _ _).mono ?_; rintro e w' ⟨rfl, rfl⟩)
            go_roundg (5 - 3)
            case measure => have := hi.out; omega
            case rel => exact ⟨4, ⟨by omega⟩, ⟨by rw [hE2.out, if_neg (by simp [badAt, c2, c3])]⟩, hk1, HB1⟩
        · by_cases c2 : bt s 2 = 61
          · skip
            have c3_0 : (bt s 3 == 61) = false := by simp [c3]
            have c3_1 : (bt s 3 != 61) = true := by simp [c3]
            have c2_0 : (bt s 2 == 61) = true := by simp [c2]
            have c2_1 : (bt s 2 != 61) = false := by simp [c2]
            have hx2 : ∀ h : 2 < s.size, ((s[2]'h).toNat : Int) = bt s 2 := fun h => bt_at s 2 h
            have q2 : 2 < s.size := by omega
            have hx3 : ∀ h : 3 < s.size, ((s[3]'h).toNat : Int) = bt s 3 := fun h => bt_at s 3 h
            have q3 : 3 < s.size := by omega
            go_wp2_with (go_at_call 29; refine (base_value.calls _ _).mono ?_; rintro e w' ⟨rfl, rfl⟩)
            go_ret
            refine ⟨?_, HB1.out⟩
            rw [hE2.out, if_pos (by simp [badAt, c2, c3])]
            rfl
          · by_cases cv : val (bt s 3) < 0
            · have c_ : decide (val (bt s 3) < 0) = true := decide_eq_true cv
              have c3_0 : (bt s 3 == 61) = false := by simp [c3]
              have c3_1 : (bt s 3 != 61) = true := by simp [c3]
              have c2_0 : (bt s 2 == 61) = false := by simp [c2]
              have c2_1 : (bt s 2 != 61) = true := by simp [c2]
              have hx2 : ∀ h : 2 < s.size, ((s[2]'h).toNat : Int) = bt s 2 := fun h => bt_at s 2 h
              have q2 : 2 < s.size := by omega
              have hx3 : ∀ h : 3 < s.size, ((s[3]'h).toNat : Int) = bt s 3 := fun h => bt_at s 3 h
              have q3 : 3 < s.size := by omega
              go_wp2_with (go_at_call 29; refine (base_value.calls _ _).mono ?_; rintro e w' ⟨rfl, rfl⟩)
              go_ret
              refine ⟨?_, HB1.out⟩
              rw [hE2.out, if_pos (by simp [badAt, cv, c2, c3])]
              rfl
            · have c_ : decide (val (bt s 3) < 0) = false := decide_eq_false cv
              have c3_0 : (bt s 3 == 61) = false := by simp [c3]
              have c3_1 : (bt s 3 != 61) = true := by simp [c3]
              have c2_0 : (bt s 2 == 61) = false := by simp [c2]
              have c2_1 : (bt s 2 != 61) = true := by simp [c2]
              have hx2 : ∀ h : 2 < s.size, ((s[2]'h).toNat : Int) = bt s 2 := fun h => bt_at s 2 h
              have q2 : 2 < s.size := by omega
              have hx3 : ∀ h : 3 < s.size, ((s[3]'h).toNat : Int) = bt s 3 := fun h => bt_at s 3 h
              have q3 : 3 < s.size := by omega
              obtain rfl : p = 4 := by rw [hp'.out, step1 s 3 hlt (Or.inl (Int.not_lt.1 cv))]
              go_wp2_with (go_at_call 29; refine (base_value.calls _ _).mono ?_; rintro e w' ⟨rfl, rfl⟩)
              go_roundg (5 - 3)
              case measure => have := hi.out; omega
              case rel => exact ⟨4, ⟨by omega⟩, ⟨by rw [hE2.out, if_neg (by simp [badAt, cv, c2, c3])]⟩, hk1, HB1⟩
    · have hnx : ∀ ty, (Instr.next (.pointer (some ⟨w.heap.size, 0, none⟩)) true ty).run Try.prog wr = .ok (.tuple #[.bool false]) wr := fun ty => Lib.run_next_end_at wr w.heap.size s i ty hk.out hlt
      have hT : endsL s 4 0 = endsT s := by
        rw [hE.out]
        cases 4 - i with
        | zero => rfl
        | succ m => simp only [endsL]; rw [if_neg (by omega)]
      have hT' := Aside0.mk hT
      clear hT hE
      by_cases c4 : s.size = 4
      · have z4 : ((s.size : Int) == 4) = true := by simp [c4]
        by_cases c3 : bt s 3 = 61
        · by_cases c2 : bt s 2 = 61
          · skip
            have c3_0 : (bt s 3 == 61) = true := by simp [c3]
            have c3_1 : (bt s 3 != 61) = false := by simp [c3]
            have c2_0 : (bt s 2 == 61) = true := by simp [c2]
            have c2_1 : (bt s 2 != 61) = false := by simp [c2]
            have hx2 : ∀ h : 2 < s.size, ((s[2]'h).toNat : Int) = bt s 2 := fun h => bt_at s 2 h
            have q2 : 2 < s.size := by omega
            have hx3 : ∀ h : 3 < s.size, ((s[3]'h).toNat : Int) = bt s 3 := fun h => bt_at s 3 h
            have q3 : 3 < s.size := by omega
            go_wp2_with (go_at_call 29; refine (base_value.calls _ _).mono ?_; rintro e w' ⟨rfl, rfl⟩)
            go_ret
            refine ⟨?_, HB.out⟩
            rw [hT'.out, endsT, if_neg (by simp [c2, c3])]
            rfl
          · by_cases c1 : bits .and .i64 (val (bt s 2)) 3 = 0
            · have c1_0 : (bits .and .i64 (val (bt s 2)) 3 != 0) = false := by simp [c1]
              have c3_0 : (bt s 3 == 61) = true := by simp [c3]
              have c3_1 : (bt s 3 != 61) = false := by simp [c3]
              have c2_0 : (bt s 2 == 61) = false := by simp [c2]
              have c2_1 : (bt s 2 != 61) = true := by simp [c2]
              have hx2 : ∀ h : 2 < s.size, ((s[2]'h).toNat : Int) = bt s 2 := fun h => bt_at s 2 h
              have q2 : 2 < s.size := by omega
              have hx3 : ∀ h : 3 < s.size, ((s[3]'h).toNat : Int) = bt s 3 := fun h => bt_at s 3 h
              have q3 : 3 < s.size := by omega
              go_wp2_with (go_at_call 29; refine (base_value.calls _ _).mono ?_; rintro e w' ⟨rfl, rfl⟩)
              go_ret
              refine ⟨?_, HB.out⟩
              rw [hT'.out, endsT, if_neg (by simp [c1, c2, c3])]
              rfl
            · have c1_0 : (bits .and .i64 (val (bt s 2)) 3 != 0) = true := by simp [c1]
              have c3_0 : (bt s 3 == 61) = true := by simp [c3]
              have c3_1 : (bt s 3 != 61) = false := by simp [c3]
              have c2_0 : (bt s 2 == 61) = false := by simp [c2]
              have c2_1 : (bt s 2 != 61) = true := by simp [c2]
              have hx2 : ∀ h : 2 < s.size, ((s[2]'h).toNat : Int) = bt s 2 := fun h => bt_at s 2 h
              have q2 : 2 < s.size := by omega
              have hx3 : ∀ h : 3 < s.size, ((s[3]'h).toNat : Int) = bt s 3 := fun h => bt_at s 3 h
              have q3 : 3 < s.size := by omega
              go_wp2_with (go_at_call 29; refine (base_value.calls _ _).mono ?_; rintro e w' ⟨rfl, rfl⟩)
              go_ret
              refine ⟨?_, HB.out⟩
              rw [hT'.out, endsT, if_pos ⟨c4, c3, c2, c1⟩]
              rfl
        · skip
          have c3_0 : (bt s 3 == 61) = false := by simp [c3]
          have c3_1 : (bt s 3 != 61) = true := by simp [c3]
          have hx2 : ∀ h : 2 < s.size, ((s[2]'h).toNat : Int) = bt s 2 := fun h => bt_at s 2 h
          have q2 : 2 < s.size := by omega
          have hx3 : ∀ h : 3 < s.size, ((s[3]'h).toNat : Int) = bt s 3 := fun h => bt_at s 3 h
          have q3 : 3 < s.size := by omega
          go_wp2_with (go_at_call 29; refine (base_value.calls _ _).mono ?_; rintro e w' ⟨rfl, rfl⟩)
          go_ret
          refine ⟨?_, HB.out⟩
          rw [hT'.out, endsT, if_neg (by simp [c3])]
          rfl
      · have z4 : ((s.size : Int) == 4) = false := by rw [beq_eq_false_iff_ne]; omega
        go_wp2_with (go_at_call 29; refine (base_value.calls _ _).mono ?_; rintro e w' ⟨rfl, rfl⟩)
        go_ret
        refine ⟨?_, HB.out⟩
        rw [hT'.out, endsT, if_neg (by simp [c4])]
        rfl
end Go.Proofs.YtdnkclccjgcelaaBE
