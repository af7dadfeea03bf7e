import Derived.Test.YtdnkclccjgcelaaBld
import Derived.Test.YtdnkclccjgcelaaWMore
import Derived.Laws.CopyOwn
import Derived.Laws.BitsAllLaws
set_option linter.unusedVariables false
namespace Go.Proofs.YtdnkclccjgcelaaBW
open Go.RowKit Go.Proofs.YtdnkclccjgcelaaW.PrintWords Go.Proofs.YtdnkclccjgcelaaW.PrintLast Go.Proofs.YtdnkclccjgcelaaW.PrintMore

def m3 (N : Nat) : Nat := min N 3
theorem m3_le (N : Nat) : m3 N ≤ N := Nat.min_le_left _ _
theorem m3_three (N : Nat) : m3 N ≤ 3 := Nat.min_le_right _ _
theorem m3_full (N : Nat) (h : m3 N < N) : m3 N = 3 := by unfold m3 at *; omega
theorem m3_pos (N : Nat) (h : 0 < N) : 0 < m3 N := by unfold m3; omega
theorem min2_m3 (k k' : IntKind) (N : Nat) : Builtin.min2 (.int k (N : Int)) (.int k' 3) = pure (.int k (m3 N : Int)) := by
  simp only [Builtin.min2, m3]
  congr 2
  split <;> omega
attribute [local go_sem] min2_m3 min_two
attribute [irreducible] m3

theorem isB_below {T e B b : Nat} {bs : List Value} {w w1 : World} (h : Lib.IsBuilder T e B b bs w) (hb : Below w.heap.size w w1) : Lib.IsBuilder T e B b bs w1 := by
  have key : ∀ p, Lib.BuilderAt T e B b p bs w → Lib.BuilderAt T e B b p bs w1 := by
    intro p h
    have hlt := h.lt
    obtain ⟨hB, v, hbk, hown, hne⟩ := h
    exact ⟨hB, v, (hb.block b hlt).trans hbk, own_move hown (fun k hk => hb.block k (own_lt hown k hk)), hne⟩
  rcases h with h | h
  · exact Or.inl (key _ h)
  · exact Or.inr (key _ h)

theorem srcCells {w W : World} {A : Option Addr} {l : List Int} (HR : Kd.C (Kd.int .u8) w A l.length l) (hB : Below w.heap.size w W) (n : Nat) (cs : List Value) (hcs : cs = (l.take n).map (Value.int .u8)) :
    0 < cs.length → ∃ ad, A = some ad ∧ ∀ j v, cs[j]? = some v → W.cell? (ad.add j) = some v := by
  subst hcs
  intro hp
  have hl : 0 < l.length := by simp at hp; omega
  obtain ⟨ad, hA, _⟩ := Kd.at_int HR 0 (by omega) (by omega)
  refine ⟨ad, hA, ?_⟩
  intro j v hj
  rw [List.getElem?_map, Option.map_eq_some_iff] at hj
  obtain ⟨x, hx, rfl⟩ := hj
  rw [List.getElem?_take] at hx
  split at hx
  · have hjl : j < l.length := by
      rcases Nat.lt_or_ge j l.length with h | h
      · exact h
      · rw [List.getElem?_eq_none h] at hx; cases hx
    obtain ⟨ad', hA', hc⟩ := Kd.at_int HR (j : Int) (by omega) (by omega)
    have : ad' = ad := by rw [hA] at hA'; exact (Option.some.inj hA').symm
    subst this
    have hc2 := (hB.cell (World.block_lt_of_cell? w _ hc)).trans hc
    rw [Int.toNat_natCast] at hc2
    rw [hc2]
    unfold rd
    rw [Int.toNat_natCast, List.getD_eq_getElem?_getD, hx]
    rfl
  · cases hx

theorem spliced (l : List Int) : splice [Value.int IntKind.u8 0, Value.int IntKind.u8 0, Value.int IntKind.u8 0] 0 ((l.take (m3 l.length)).map (Value.int .u8)) = [Value.int IntKind.u8 (l.getD 0 0), Value.int IntKind.u8 (l.getD 1 0), Value.int IntKind.u8 (l.getD 2 0)] := by
  unfold m3
  match l with
  | [] => rfl
  | [a] => rfl
  | [a, b] => rfl
  | a :: b :: c :: r =>
    have : min (a :: b :: c :: r).length 3 = 3 := by simp
    rw [this]
    rfl

def LET : ByteArray := ⟨#[65, 66, 67, 68, 69, 70, 71, 72, 73, 74, 75, 76, 77, 78, 79, 80, 81, 82, 83, 84, 85, 86, 87, 88, 89, 90, 97, 98, 99, 100, 101, 102, 103, 104, 105, 106, 107, 108, 109, 110, 111, 112, 113, 114, 115, 116, 117, 118, 119, 120, 121, 122, 48, 49, 50, 51, 52, 53, 54, 55, 56, 57, 43, 47]⟩
def lett (v : Int) : UInt8 := UInt8.ofNat (bt LET v).toNat
theorem lett_int (v : Int) : ((lett v).toNat : Int) = bt LET v := by
  have := bt_range LET v
  unfold lett
  simp
  omega
def enc4 (V : Int) (n : Nat) : List UInt8 := [lett (V / 262144 % 64), lett (V / 4096 % 64), if n < 2 then 61 else lett (V / 64 % 64), if n < 3 then 61 else lett (V % 64)]
def enc : List Int → List UInt8
  | [] => []
  | [a] => enc4 (a * 65536) 1
  | [a, b] => enc4 (a * 65536 + b * 256) 2
  | a :: b :: c :: r => enc4 (a * 65536 + b * 256 + c) 3 ++ enc r
theorem enc_step (l : List Int) (h : 0 < l.length) : enc l = enc4 (l.getD 0 0 * 65536 + l.getD 1 0 * 256 + l.getD 2 0) (m3 l.length) ++ enc (l.drop (m3 l.length)) := by
  unfold m3
  match l, h with
  | [a], _ => simp [enc]
  | [a, b], _ => simp [enc]
  | a :: b :: c :: r, _ =>
    have : min (a :: b :: c :: r).length 3 = 3 := by simp
    rw [this]
    rfl
theorem u32_join (x y : Int) (i : Nat) (hx : 0 ≤ x) (hx2 : x < 4294967296) (hm : x.toNat % 2 ^ i = 0) (hy : 0 ≤ y) (hy1 : y < 4294967296) (hy2 : y.toNat < 2 ^ i) : bits .or .u32 x y = x + y := by
  rw [u32_or x y hx hx2 hy hy1, nat_join i _ _ hm hy2]
  omega
theorem vval (x y z : Int) (hx : 0 ≤ x ∧ x < 256) (hy : 0 ≤ y ∧ y < 256) (hz : 0 ≤ z ∧ z < 256) :
    bits BinOp.or IntKind.u32 (bits BinOp.or IntKind.u32 (x % 4294967296 * 65536 % 4294967296) (y % 4294967296 * 256 % 4294967296)) (z % 4294967296) = x * 65536 + y * 256 + z := by
  rw [show x % 4294967296 * 65536 % 4294967296 = x * 65536 by omega, show y % 4294967296 * 256 % 4294967296 = y * 256 by omega, show z % 4294967296 = z by omega]
  rw [u32_join (x * 65536) (y * 256) 16 (by omega) (by omega) (by omega) (by omega) (by omega) (by omega)]
  rw [u32_join _ z 8 (by omega) (by omega) (by omega) (by omega) (by omega) (by omega)]
theorem and63 (x : Int) (h0 : 0 ≤ x) (h1 : x < 4294967296) : bits .and .u32 x 63 = x % 64 := by
  rw [u32_and x 63 h0 h1 (by decide) (by decide)]
  rw [show (63 : Int).toNat = 63 from rfl, nat_mask6]
  omega
theorem took (acc L : List UInt8) (i : Nat) (x : UInt8) (c : Int) (h : L[i]? = some x) (hc : c = (x.toNat : Int)) : Lib.byteCells (acc ++ L.take i) ++ [.int .u8 c] = Lib.byteCells (acc ++ L.take (i + 1)) := by
  subst hc
  rw [List.take_add_one, h]
  simp [Lib.byteCells]
theorem took_len (acc L : List UInt8) (i n : Nat) (hL : L.length = 4) (ha : 3 * acc.length ≤ 4 * n) (hn : n ≤ 140737488351232) : ((Lib.byteCells (acc ++ L.take i)).length + 1) + ((Lib.byteCells (acc ++ L.take i)).length + 1) / 4 + 192 ≤ 281474976710656 := by
  rw [Lib.byteCells_length, List.length_append, List.length_take, hL]
  omega
theorem getD_byte (l : List Int) (h : ∀ x ∈ l, 0 ≤ x ∧ x < 256) (i : Nat) : 0 ≤ l.getD i 0 ∧ l.getD i 0 < 256 := by
  rw [List.getD_eq_getElem?_getD]
  rcases Nat.lt_or_ge i l.length with hi | hi
  · rw [List.getElem?_eq_getElem hi]; exact h _ (List.getElem_mem hi)
  · rw [List.getElem?_eq_none hi]; decide

set_option maxHeartbeats 4000000 in
set_option maxRecDepth 100000 in
theorem base_Write.calls (A0 : Option Addr) (c0 : Nat) (l0 : List Int) (w : World) (hr0 : Kd.C (Kd.int .u8) w A0 l0.length l0) (hc0 : l0.length ≤ c0) (hb0 : ∀ x ∈ l0, 0 ≤ x ∧ x < 256) (hl0 : l0.length ≤ 140737488351232) :
    Calls Try.prog 12 #[.slice A0 l0.length c0] w fun e w' => e = .returned (.string ⟨(enc l0).toArray⟩) ∧ Below w.heap.size w w' := by
  have HR0 := Aside0.mk hr0
  have HC0 := Aside0.mk hc0
  have HB0 := Aside0.mk hb0
  have HL0 := Aside0.mk hl0
  clear hr0 hc0 hb0 hl0
  go_enter Try.func12, Try.ntmps12
  go_wp2
  go_loopg [0] (l0.length + 1) (fun kq v0 w' => ∃ (A : Option Addr) (c N : Nat) (l : List Int) (acc : List UInt8), v0 = .slice A N c ∧ Aside0 (N = l.length ∧ N < kq) ∧ Aside0 (Kd.C (Kd.int .u8) w A l.length l) ∧ Aside0 (N ≤ c) ∧ Aside0 (∀ x ∈ l, 0 ≤ x ∧ x < 256) ∧ Aside0 (acc ++ enc l = enc l0) ∧ Aside0 (3 * acc.length + 4 * l.length ≤ 4 * l0.length + 8 ∧ (l.length ≠ 0 → 3 * acc.length + 4 * l.length ≤ 4 * l0.length)) ∧ Aside0 (Lib.IsBuilder 52 5 w.heap.size w.heap.size (Lib.byteCells acc) w') ∧ Aside0 (Below w.heap.size w w'))
  case atStart => exact ⟨A0, c0, l0.length, l0, [], rfl, ⟨rfl, Nat.lt_succ_self _⟩, HR0, HC0, HB0, ⟨rfl⟩, ⟨by simp, fun _ => by simp⟩, ⟨Lib.fresh_isBuilder 52 5 w⟩, ⟨below_alloc (Below.refl _ _) _⟩⟩
  case round =>
    obtain ⟨A, c, N, l, acc, rfl, hK, HR, HC, hb, hacc, hal, hB, HB⟩ := hrel
    by_cases hN : N = 0
    · subst hN
      go_wp2_with (go_at_call 27; refine (Try.Builder_String_any w.heap.size w.heap.size acc _ hB.out (by have := HB.out.size; omega)).mono ?_; rintro e w' ⟨rfl, hb'⟩)
      go_ret
      refine ⟨?_, HB.out.trans hb'⟩
      have hl : l = [] := List.eq_nil_of_length_eq_zero hK.out.1.symm
      have := hacc.out
      rw [hl] at this
      rw [← this]
      simp [enc]
    · have hN0 : 0 < N := Nat.pos_of_ne_zero hN
      have hm0 := m3_pos N hN0
      have hm1 := m3_le N
      have hm3 := m3_three N
      have hmc : m3 N ≤ c := Nat.le_trans hm1 HC.out
      go_wp2
      obtain ⟨cs, hcs⟩ : ∃ cs, cs = (l.take (m3 N)).map (Value.int .u8) := ⟨_, rfl⟩
      have hlen : cs.length = m3 N := by rw [hcs, List.length_map, List.length_take, ← hK.out.1]; omega
      have hsrc : ∀ W, Below w.heap.size w W → 0 < cs.length → ∃ ad, A = some ad ∧ ∀ j v, cs[j]? = some v → W.cell? (ad.add j) = some v := fun W hW => srcCells HR.out hW (m3 N) cs hcs
      have hone : ∀ v ∈ cs, v.oneCell' = true := by
        intro v hv
        rw [hcs, List.mem_map] at hv
        obtain ⟨x, _, rfl⟩ := hv
        rfl
      have hrow : (wr.alloc (.cells #[Value.int IntKind.u8 0, Value.int IntKind.u8 0, Value.int IntKind.u8 0] 53)).heap[wr.heap.size]? = some (.cells #[Value.int IntKind.u8 0, Value.int IntKind.u8 0, Value.int IntKind.u8 0] 53 (0, 0)) := by simpa using heap_alloc_new wr _
      have HB1 := below_alloc HB.out (.cells #[Value.int IntKind.u8 0, Value.int IntKind.u8 0, Value.int IntKind.u8 0] 53)
      have HB1d := Aside0.mk (below_drew HB1)
      have HBn := Aside0.mk (below_drew (below_alloc (Below.refl wr.heap.size wr) (.cells #[Value.int IntKind.u8 0, Value.int IntKind.u8 0, Value.int IntKind.u8 0] 53)))
      clear HB1
      have hs := Aside0.mk hsrc
      clear hsrc
      have hcs' := Aside0.mk hcs
      clear hcs
      go_region_law (refine step_copy_splice rfl (.tmp 14) (.tmp 18) 22 22 rfl 5 Try.underlying22 (by kernel_rfl) (some ⟨wr.heap.size, 0, none⟩) A 3 3 (m3 N) (m3 N) rfl rfl wr.heap.size 0 [Value.int IntKind.u8 0, Value.int IntKind.u8 0, Value.int IntKind.u8 0] 53 hrow cs (by rw [hlen]; exact (Nat.min_eq_left hm3).symm) (fun hp => ⟨rfl, hs.out _ HB1d.out hp⟩) (by rw [hlen, Nat.zero_add]; exact hm3) hone wr.heap.size wr HBn.out (Nat.le_refl _) ?_; intro w4 hg4 hb4)
      clear HB1d hrow
      have HB4 := Aside0.mk hb4
      clear hb4
      have hrow4 := hg4.out
      rw [hcs'.out, hK.out.1, spliced] at hrow4
      obtain ⟨x0, hx0⟩ : ∃ x, x = l.getD 0 0 := ⟨_, rfl⟩
      obtain ⟨x1, hx1⟩ : ∃ x, x = l.getD 1 0 := ⟨_, rfl⟩
      obtain ⟨x2, hx2⟩ : ∃ x, x = l.getD 2 0 := ⟨_, rfl⟩
      rw [← hx0, ← hx1, ← hx2] at hrow4
      have d0 : w4.cell? ⟨wr.heap.size, 0, none⟩ = some (.int .u8 x0) := by rw [Lib.cell_of_heap hrow4]; rfl
      have d1 : w4.cell? ⟨wr.heap.size, 1, none⟩ = some (.int .u8 x1) := by rw [Lib.cell_of_heap hrow4]; rfl
      have d2 : w4.cell? ⟨wr.heap.size, 2, none⟩ = some (.int .u8 x2) := by rw [Lib.cell_of_heap hrow4]; rfl
      have hX := Aside0.mk (And.intro hx0 (And.intro hx1 hx2))
      clear hx0 hx1 hx2
      clear hg4 hrow4
      go_wp2
      have hb0 := getD_byte l hb.out 0
      have hb1 := getD_byte l hb.out 1
      have hb2 := getD_byte l hb.out 2
      rw [← hX.out.1] at hb0
      rw [← hX.out.2.1] at hb1
      rw [← hX.out.2.2] at hb2
      rw [vval x0 x1 x2 hb0 hb1 hb2]
      obtain ⟨V, hV⟩ : ∃ V, V = x0 * 65536 + x1 * 256 + x2 := ⟨_, rfl⟩
      rw [← hV]
      have hV0 : 0 ≤ V := by omega
      have hV1 : V < 16777216 := by omega
      have hV' := Aside0.mk hV
      clear hV d0 d1 d2 hb0 hb1 hb2
      go_loopg [33] 5 (fun kq v33 w' => ∃ (i : Nat), v33 = .int .i64 (i : Int) ∧ Aside0 (i + kq = 5 ∧ i ≤ 4) ∧ Aside0 (Lib.IsBuilder 52 5 w.heap.size w.heap.size (Lib.byteCells (acc ++ (enc4 V (m3 N)).take i)) w') ∧ Aside0 (Below w.heap.size w w'))
      case atStart =>
        refine ⟨0, rfl, ⟨by omega⟩, ⟨?_⟩, ⟨HB.out.trans (HB4.out.mono HB.out.size)⟩⟩
        rw [List.take_zero, List.append_nil]
        exact isB_below hB.out HB4.out
      case round =>
        obtain ⟨i, rfl, hi, hB5, HB5⟩ := hrel
        have hsz := HB5.out.size
        obtain rfl | rfl | rfl | rfl | rfl : i = 0 ∨ i = 1 ∨ i = 2 ∨ i = 3 ∨ i = 4 := by have := hi.out.2; omega
        · have k0 : ¬ ((m3 N : Int) < 0) := by omega
          have e0 := and63 (V / 262144) (by omega) (by omega)
          have p : 0 ≤ V / 262144 % 64 := by omega
          have q : V / 262144 % 64 < 64 := by omega
          go_wp2_with (go_at_call 26; refine (YtdnkclccjgcelaaBld.writeByte w.heap.size w.heap.size _ _ _ hB5.out (took_len _ _ _ _ rfl (by have := hal.out.2 (by rw [← hK.out.1]; exact hN); omega) HL0.out) hsz).mono ?_; rintro e w' ⟨rfl, hB6, HB6⟩)
          go_roundg (4 - 0)
          case measure => have := hi.out; omega
          case rel =>
            refine ⟨1, by first | rfl | (simp; done), ⟨by omega⟩, ⟨?_⟩, ⟨HB5.out.trans HB6⟩⟩
            rw [took acc (enc4 V (m3 N)) 0 (lett (V / 262144 % 64)) _ rfl (by rw [lett_int]; exact bt_at LET (V / 262144 % 64) _)] at hB6
            exact Or.inr hB6
        · have k0 : ¬ ((m3 N : Int) < 1) := by omega
          have e0 := and63 (V / 4096) (by omega) (by omega)
          have p : 0 ≤ V / 4096 % 64 := by omega
          have q : V / 4096 % 64 < 64 := by omega
          go_wp2_with (go_at_call 26; refine (YtdnkclccjgcelaaBld.writeByte w.heap.size w.heap.size _ _ _ hB5.out (took_len _ _ _ _ rfl (by have := hal.out.2 (by rw [← hK.out.1]; exact hN); omega) HL0.out) hsz).mono ?_; rintro e w' ⟨rfl, hB6, HB6⟩)
          go_roundg (4 - 1)
          case measure => have := hi.out; omega
          case rel =>
            refine ⟨2, by first | rfl | (simp; done), ⟨by omega⟩, ⟨?_⟩, ⟨HB5.out.trans HB6⟩⟩
            rw [took acc (enc4 V (m3 N)) 1 (lett (V / 4096 % 64)) _ rfl (by rw [lett_int]; exact bt_at LET (V / 4096 % 64) _)] at hB6
            exact Or.inr hB6
        · by_cases kn : m3 N < 2
          · have k0 : ((m3 N : Int) < 2) := by omega
            go_wp2_with (go_at_call 26; refine (YtdnkclccjgcelaaBld.writeByte w.heap.size w.heap.size _ _ _ hB5.out (took_len _ _ _ _ rfl (by have := hal.out.2 (by rw [← hK.out.1]; exact hN); omega) HL0.out) hsz).mono ?_; rintro e w' ⟨rfl, hB6, HB6⟩)
            go_roundg (4 - 2)
            case measure => have := hi.out; omega
            case rel =>
              refine ⟨3, by first | rfl | (simp; done), ⟨by omega⟩, ⟨?_⟩, ⟨HB5.out.trans HB6⟩⟩
              rw [took acc (enc4 V (m3 N)) 2 61 61 (by simp [enc4, kn]) rfl] at hB6
              exact Or.inr hB6
          · have k0 : ¬ ((m3 N : Int) < 2) := by omega
            have e0 := and63 (V / 64) (by omega) (by omega)
            have p : 0 ≤ V / 64 % 64 := by omega
            have q : V / 64 % 64 < 64 := by omega
            go_wp2_with (go_at_call 26; refine (YtdnkclccjgcelaaBld.writeByte w.heap.size w.heap.size _ _ _ hB5.out (took_len _ _ _ _ rfl (by have := hal.out.2 (by rw [← hK.out.1]; exact hN); omega) HL0.out) hsz).mono ?_; rintro e w' ⟨rfl, hB6, HB6⟩)
            go_roundg (4 - 2)
            case measure => have := hi.out; omega
            case rel =>
              refine ⟨3, by first | rfl | (simp; done), ⟨by omega⟩, ⟨?_⟩, ⟨HB5.out.trans HB6⟩⟩
              rw [took acc (enc4 V (m3 N)) 2 (lett (V / 64 % 64)) _ (by simp [enc4, kn]) (by rw [lett_int]; exact bt_at LET (V / 64 % 64) _)] at hB6
              exact Or.inr hB6
        · by_cases kn : m3 N < 3
          · have k0 : ((m3 N : Int) < 3) := by omega
            go_wp2_with (go_at_call 26; refine (YtdnkclccjgcelaaBld.writeByte w.heap.size w.heap.size _ _ _ hB5.out (took_len _ _ _ _ rfl (by have := hal.out.2 (by rw [← hK.out.1]; exact hN); omega) HL0.out) hsz).mono ?_; rintro e w' ⟨rfl, hB6, HB6⟩)
            go_roundg (4 - 3)
            case measure => have := hi.out; omega
            case rel =>
              refine ⟨4, by first | rfl | (simp; done), ⟨by omega⟩, ⟨?_⟩, ⟨HB5.out.trans HB6⟩⟩
              rw [took acc (enc4 V (m3 N)) 3 61 61 (by simp [enc4, kn]) rfl] at hB6
              exact Or.inr hB6
          · have k0 : ¬ ((m3 N : Int) < 3) := by omega
            have e0 := and63 (V) (by omega) (by omega)
            have p : 0 ≤ V % 64 := by omega
            have q : V % 64 < 64 := by omega
            go_wp2_with (go_at_call 26; refine (YtdnkclccjgcelaaBld.writeByte w.heap.size w.heap.size _ _ _ hB5.out (took_len _ _ _ _ rfl (by have := hal.out.2 (by rw [← hK.out.1]; exact hN); omega) HL0.out) hsz).mono ?_; rintro e w' ⟨rfl, hB6, HB6⟩)
            go_roundg (4 - 3)
            case measure => have := hi.out; omega
            case rel =>
              refine ⟨4, by first | rfl | (simp; done), ⟨by omega⟩, ⟨?_⟩, ⟨HB5.out.trans HB6⟩⟩
              rw [took acc (enc4 V (m3 N)) 3 (lett (V % 64)) _ (by simp [enc4, kn]) (by rw [lett_int]; exact bt_at LET (V % 64) _)] at hB6
              exact Or.inr hB6
        · have k4 : ¬ ((4 : Int) < 4) := by omega
          have hmN : (m3 N : Int) ≤ N := by omega
          have henc : acc ++ enc4 V (m3 N) ++ enc (l.drop (m3 N)) = enc l0 := by
            rw [← hacc.out, enc_step l (by rw [← hK.out.1]; exact hN0), hV'.out, hX.out.1, hX.out.2.1, hX.out.2.2, hK.out.1, List.append_assoc]
          have hdl : N - m3 N = (l.drop (m3 N)).length := by rw [List.length_drop, ← hK.out.1]
          have hCd := Kd.C_drop HR.out (show m3 N ≤ l.length by rw [← hK.out.1]; exact hm1) (show l.length ≤ c by rw [← hK.out.1]; exact HC.out)
          have hbd : ∀ x ∈ l.drop (m3 N), 0 ≤ x ∧ x < 256 := fun x hx => hb.out x (List.mem_of_mem_drop hx)
          have hC := Aside0.mk hCd
          have he := Aside0.mk henc
          have hd := Aside0.mk hdl
          have hbd' := Aside0.mk hbd
          clear hCd henc hdl hbd
          have hfour : (enc4 V (m3 N)).take 4 = enc4 V (m3 N) := rfl
          have hB5' := hB5.out
          rw [hfour] at hB5'
          have hB7 := Aside0.mk hB5'
          clear hB5' hfour
          by_cases hcm : c = m3 N
          · subst hcm
            go_wp2
            go_roundg (N - m3 N + 1)
            case measure => have := hK.out.2; omega
            case rel => exact ⟨_, _, _, l.drop (m3 N), acc ++ enc4 V (m3 N), rfl, ⟨hd.out, by omega⟩, ⟨by simpa using hC.out⟩, ⟨by have := HC.out; omega⟩, hbd', he, ⟨by have := hal.out.2 (by rw [← hK.out.1]; exact hN); have := hd.out; have := hK.out.1; have := m3_full N; rw [List.length_append, show (enc4 V (m3 N)).length = 4 from rfl]; omega⟩, hB7, HB5⟩
          · go_wp2
            go_roundg (N - m3 N + 1)
            case measure => have := hK.out.2; omega
            case rel => exact ⟨_, _, _, l.drop (m3 N), acc ++ enc4 V (m3 N), rfl, ⟨hd.out, by omega⟩, ⟨by have := hC.out; rw [if_neg hcm, show (Kd.int IntKind.u8).sz = 1 from rfl, Nat.mul_one] at this; exact this⟩, ⟨by have := HC.out; omega⟩, hbd', he, ⟨by have := hal.out.2 (by rw [← hK.out.1]; exact hN); have := hd.out; have := hK.out.1; have := m3_full N; rw [List.length_append, show (enc4 V (m3 N)).length = 4 from rfl]; omega⟩, hB7, HB5⟩
end Go.Proofs.YtdnkclccjgcelaaBW
