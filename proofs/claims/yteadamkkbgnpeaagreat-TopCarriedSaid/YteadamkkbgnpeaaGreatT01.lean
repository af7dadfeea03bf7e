/- TopCarried: what the law stands on, part 1. No condition. -/
import Derived.Test.YteadamkkbgnpeaaGreatT00
import Derived.Deep.RegionLaw
section OfS2
set_option linter.unusedVariables false
set_option linter.unusedSimpArgs false
namespace Go.Proofs.YteadamkkbgnpeaaGreat.S
open Go.RowKit B QTC YteadamkkbgnpeaaGreatW.PrintWords
def turnV (x n : Int) : Int := (sha_turn.f x n).getD 0
theorem turn_some (x n : Int) (h1 : 0 ≤ (Go.bits .and .u64 (IntKind.u64.wrap (wrap64 (-n))) 31)) (h2 : 0 ≤ (IntKind.u64.wrap (32 - (Go.bits .and .u64 (IntKind.u64.wrap (wrap64 (-n))) 31)))) : sha_turn.f x n = some (turnV x n) := by
 unfold turnV sha_turn.f bits_RotateLeft32.f
 rw [if_pos h1, if_pos h2]
 rfl
theorem turn_all (x n : Int) (hn : n = 2 ∨ n = 6 ∨ n = 7 ∨ n = 11 ∨ n = 13 ∨ n = 17 ∨ n = 18 ∨ n = 19 ∨ n = 22 ∨ n = 25) : sha_turn.f x n = some (turnV x n) := by
 rcases hn with rfl | rfl | rfl | rfl | rfl | rfl | rfl | rfl | rfl | rfl <;> exact turn_some x _ (by decide +kernel) (by decide +kernel)
theorem turn_calls (x n : Int) (hn : n = 2 ∨ n = 6 ∨ n = 7 ∨ n = 11 ∨ n = 13 ∨ n = 17 ∨ n = 18 ∨ n = 19 ∨ n = 22 ∨ n = 25) (w : World) :
  Calls Tryz.prog 79 #[.int .u32 x, .int .i64 n] w fun e w' => e = .returned (.int .u32 (turnV x n)) ∧ ∃ m, w' = w.drewN m := by
 refine (sha_turn.calls x n _ w (turn_all x n hn)).mono ?_
 rintro e w' ⟨rfl, h⟩
 exact ⟨rfl, h.out⟩
def wordV (l : List Int) : Int := (sha_word.f l).getD 0
theorem word_some (l : List Int) (h : 4 ≤ l.length) : sha_word.f l = some (wordV l) := by
 unfold wordV sha_word.f
 rw [if_pos (by omega), if_pos (by omega), if_pos (by omega), if_pos (by omega)]
 rfl
def fillW (l : List Int) : Nat → List Int
 | 0 => List.replicate 16 0
 | i + 1 => (fillW l i).set i (wordV (l.drop (4 * i)))
theorem fillW_len (l : List Int) : ∀ i, (fillW l i).length = 16
 | 0 => rfl
 | i + 1 => by rw [fillW, List.length_set]; exact fillW_len l i
/-- The word of a round, and the words behind it. -/
def extW (i : Nat) (W : List Int) : Int × List Int :=
 if 16 ≤ i then
  let far := W.getD ((i + 1) % 16) 0
  let near := W.getD ((i + 14) % 16) 0
  let x := IntKind.u32.wrap (W.getD (i % 16) 0 + IntKind.u32.wrap (IntKind.u32.wrap (W.getD ((i + 9) % 16) 0 + Go.bits .xor .u32 (Go.bits .xor .u32 (turnV far 7) (turnV far 18)) (far / 8)) + Go.bits .xor .u32 (Go.bits .xor .u32 (turnV near 17) (turnV near 19)) (near / 1024)))
  (x, W.set (i % 16) x)
 else (W.getD (i % 16) 0, W)
def tV (i : Nat) (x : Int) (V : List Int) : Int :=
 let e := V.getD 4 0
 IntKind.u32.wrap (IntKind.u32.wrap (IntKind.u32.wrap (IntKind.u32.wrap (V.getD 7 0 + Go.bits .xor .u32 (Go.bits .xor .u32 (turnV e 6) (turnV e 11)) (turnV e 25)) + Go.bits .xor .u32 (V.getD 6 0) (Go.bits .and .u32 e (Go.bits .xor .u32 (V.getD 5 0) (V.getD 6 0)))) + K0.getD i 0) + x)
def uV (V : List Int) : Int :=
 let a := V.getD 0 0
 IntKind.u32.wrap (Go.bits .xor .u32 (Go.bits .xor .u32 (turnV a 2) (turnV a 13)) (turnV a 22) + Go.bits .or .u32 (Go.bits .and .u32 a (V.getD 1 0)) (Go.bits .and .u32 (V.getD 2 0) (Go.bits .or .u32 a (V.getD 1 0))))
def roundV (i : Nat) (x : Int) (V : List Int) : List Int :=
 let V1 := V.take 1 ++ V.take 7
 let V2 := V1.set 4 (IntKind.u32.wrap (V1.getD 4 0 + tV i x V))
 V2.set 0 (IntKind.u32.wrap (tV i x V + uV V))
def mixR (S : List Int) (l : List Int) : Nat → List Int × List Int
 | 0 => (S, fillW l 16)
 | i + 1 => (roundV i (extW i (mixR S l i).2).1 (mixR S l i).1, (extW i (mixR S l i).2).2)
theorem extW_len (i : Nat) (W : List Int) (h : W.length = 16) : (extW i W).2.length = 16 := by
 unfold extW
 split
 ·show (List.set _ _ _).length = 16; rw [List.length_set]; exact h
 ·exact h
theorem roundV_len (i : Nat) (x : Int) (V : List Int) (h : V.length = 8) : (roundV i x V).length = 8 := by
 unfold roundV
 simp [h]
theorem mixR_len (S l : List Int) (h : S.length = 8) (i : Nat) : (mixR S l i).1.length = 8 ∧ (mixR S l i).2.length = 16 := by
 induction i with
 | zero =>
  simp only [mixR]
  exact ⟨h, fillW_len l _⟩
 | succ i ih =>
  simp only [mixR]
  exact ⟨roundV_len _ _ _ ih.1, extW_len _ _ ih.2⟩
def addS (S V : List Int) : Nat → List Int
 | 0 => V
 | i + 1 => (addS S V i).set i (IntKind.u32.wrap ((addS S V i).getD i 0 + S.getD i 0))
theorem addS_len (S V : List Int) (h : V.length = 8) : ∀ i, (addS S V i).length = 8
 | 0 => h
 | i + 1 => by rw [addS, List.length_set]; exact addS_len S V h i
/-- What mix computes. -/
def mixV (S l : List Int) : List Int := addS S (mixR S l 64).1 8
theorem mixV_len (S l : List Int) (h : S.length = 8) : (mixV S l).length = 8 := addS_len _ _ (mixR_len S l h 64).1 8
end Go.Proofs.YteadamkkbgnpeaaGreat.S
end OfS2
section OfS3
set_option linter.unusedVariables false
set_option linter.unusedSimpArgs false
namespace Go.Proofs.YteadamkkbgnpeaaGreat.S
open Go.RowKit YteadamkkbgnpeaaGreatW.PrintLast B QTC YteadamkkbgnpeaaGreatW.PrintWords YteadamkkbgnpeaaGreatW.PrintMore
theorem size5 : (Tryz.prog.info? 5).map (·.size) = some 1 := by kernel_rfl
theorem info5 : ∃ i, Tryz.prog.info? 5 = some i ∧ i.size = 1 := by
 obtain ⟨j, hj, hs⟩ := Option.map_eq_some_iff.1 size5
 exact ⟨j, hj, hs⟩
theorem info175 : (Tryz.prog.info? 175).bind (·.zero) = some (.agg (u32s (List.replicate 16 0))) := by kernel_rfl
/-- mix, its variables made: s, the result, the constants, the words. -/
structure M1 (w w' : World) (gs gr gk gw : Nat) (S W : List Int) : Prop where
 bel : Below w.heap.size w w'
 o : w.heap.size ≤ gs ∧ gs < gr ∧ gr < gk ∧ gk < gw
 s : ArrU w' gs 163 S
 r : ArrU w' gr 163 (List.replicate 8 0)
 k : ArrU w' gk 173 K0
 x : ArrU w' gw 175 W
section
variable {w w1 w2 : World} {gs gr gk gw : Nat} {S W : List Int}
theorem M1.below (h : M1 w w1 gs gr gk gw S W) (k : Below w1.heap.size w1 w2) : M1 w w2 gs gr gk gw S W :=
 ⟨below_step h.bel k, h.o, h.s.below k, h.r.below k, h.k.below k, h.x.below k⟩
theorem M1.setW (h : M1 w w1 gs gr gk gw S W) (i : Nat) (x : Int) : M1 w (w1.setCell ⟨gw, i, none⟩ (.int .u32 x)) gs gr gk gw S (W.set i x) :=
 ⟨h.bel.setCell (p := ⟨gw, i, none⟩) (by have := h.o; show w.heap.size ≤ gw; omega) _, h.o, h.s.far (by have := h.o; show gs ≠ gw; omega) _, h.r.far (by have := h.o; show gr ≠ gw; omega) _, h.k.far (by have := h.o; show gk ≠ gw; omega) _, h.x.set i x⟩
end
/-- The same, v made too. -/
structure M2 (w w' : World) (gs gr gk gw gv : Nat) (S W V : List Int) : Prop where
 m : M1 w w' gs gr gk gw S W
 g : gw < gv
 v : ArrU w' gv 163 V
section
variable {w w1 w2 : World} {gs gr gk gw gv : Nat} {S W V : List Int}
theorem M2.below (h : M2 w w1 gs gr gk gw gv S W V) (k : Below w1.heap.size w1 w2) : M2 w w2 gs gr gk gw gv S W V := ⟨h.m.below k, h.g, h.v.below k⟩
theorem M2.drewN (h : M2 w w1 gs gr gk gw gv S W V) (n : Nat) : M2 w (w1.drewN n) gs gr gk gw gv S W V := h.below (pw_below_drewN (Below.refl _ _) n)
theorem M2.drew (h : M2 w w1 gs gr gk gw gv S W V) : M2 w w1.drew gs gr gk gw gv S W V := h.below (below_drew (Below.refl _ _))
theorem M2.setW (h : M2 w w1 gs gr gk gw gv S W V) (i : Nat) (x : Int) : M2 w (w1.setCell ⟨gw, i, none⟩ (.int .u32 x)) gs gr gk gw gv S (W.set i x) V :=
 ⟨h.m.setW i x, h.g, h.v.far (by have := h.g; show gv ≠ gw; omega) _⟩
theorem M2.frV (h : M2 w w1 gs gr gk gw gv S W V) {V' : List Int} (k : Fr w1 w2 (fun k => k = gv)) (hv : ArrU w2 gv 163 V') : M2 w w2 gs gr gk gw gv S W V' :=
 ⟨⟨h.m.bel.trans (k.belowB (by have := h.m.bel.size; omega) (fun k e => by have := h.m.o; have := h.g; omega)), h.m.o, h.m.s.fr k (by have := h.m.o; have := h.g; show ¬ gs = gv; omega), h.m.r.fr k (by have := h.m.o; have := h.g; show ¬ gr = gv; omega), h.m.k.fr k (by have := h.m.o; have := h.g; show ¬ gk = gv; omega), h.m.x.fr k (by have := h.g; show ¬ gw = gv; omega)⟩, h.g, hv⟩
theorem M2.frB (h : M2 w w1 gs gr gk gw gv S W V) {V' : List Int} (k : Below gv w1 w2) (hv : ArrU w2 gv 163 V') : M2 w w2 gs gr gk gw gv S W V' :=
 ⟨⟨h.m.bel.trans (k.mono (by have := h.m.o; have := h.g; omega)), h.m.o, (k.block _ (by have := h.m.o; have := h.g; omega)).trans h.m.s, (k.block _ (by have := h.m.o; have := h.g; omega)).trans h.m.r, (k.block _ (by have := h.m.o; have := h.g; omega)).trans h.m.k, (k.block _ h.g).trans h.m.x⟩, h.g, hv⟩
theorem row_cells {xs : List Int} {n g t : Nat} (h : ArrU w g t xs) : ∀ j v, ((xs.take n).map (Value.int .u32))[j]? = some v → w.cell? ((⟨g, 0, none⟩ : Addr).add j) = some v := by
 intro j v hv
 rw [Addr.add_mid]
 refine h.range j v ?_
 rw [List.getElem?_map, List.getElem?_take] at hv
 rw [List.getElem?_map]
 split at hv
 ·exact hv
 ·cases hv
theorem M2.setV (h : M2 w w1 gs gr gk gw gv S W V) (i : Nat) (x : Int) : M2 w (w1.setCell ⟨gv, i, none⟩ (.int .u32 x)) gs gr gk gw gv S W (V.set i x) :=
 h.frV ((Fr.refl w1 (fun k => k = gv)).setCell (p := ⟨gv, i, none⟩) (.inl rfl) _) (h.v.set i x)
end
def S_mix.T14 : Bool × List (List Nat × List Nat) := (true, [([], []), ([0], [0]), ([1], [1]), ([2], [2]), ([3], [3]), ([], []), ([5], [5]), ([6], [6]), ([7], [7]), ([8], [8]), ([4, 0, 1, 2, 3, 4], [4]), ([9, 10, 0, 1, 2, 3, 4, 5, 6, 7, 8, 9, 10], [9])])
def S_mix.B14 : List Nat := [0, 1, 3, 7, 15, 0, 32, 96, 224, 480, 31, 2047]
theorem S_mix.tab14 : rtab .any (opsOf Tryz.f71 14) = S_mix.T14 := by kernel_rfl
theorem S_mix.bits14 : waitsOk S_mix.T14.2 S_mix.B14 = true := by kernel_rfl
def S_mix.T15 : Bool × List (List Nat × List Nat) := (true, [([], []), ([], []), ([1], [1]), ([2], [2]), ([3], [3]), ([4], [4]), ([], []), ([6], [6]), ([], []), ([8, 7], [8]), ([7, 9], [7, 9]), ([], []), ([11], [11]), ([10, 12], [10, 12]), ([5, 13], [5, 13]), ([], []), ([15, 9], [15]), ([], []), ([17, 16], [17]), ([16, 18], [16, 18]), ([], []), ([20], [20]), ([19, 21], [19, 21]), ([14, 22], [14, 22]), ([0, 23], [0, 23]), ([24, 18, 0, 1, 2, 3, 4, 5, 6, 7, 8, 9, 10, 11, 12, 13, 14, 15, 16, 17, 18, 19, 20, 21, 22, 23, 24], [0, 24])])
def S_mix.B15 : List Nat := [0, 0, 2, 6, 14, 30, 0, 64, 0, 448, 960, 0, 2048, 8128, 16382, 0, 33728, 0, 230336, 492480, 0, 1048576, 4162496, 8388606, 16777215, 33554431]
theorem S_mix.tab15 : rtab .any (opsOf Tryz.f71 15) = S_mix.T15 := by kernel_rfl
theorem S_mix.bits15 : waitsOk S_mix.T15.2 S_mix.B15 = true := by kernel_rfl
def S_mix.T17 : Bool × List (List Nat × List Nat) := (true, [([], []), ([0], [0]), ([], []), ([2], [2]), ([1, 0, 1], [1]), ([3, 4, 0, 1, 2, 3, 4], [3])])
def S_mix.B17 : List Nat := [0, 1, 0, 4, 3, 31]
theorem S_mix.tab17 : rtab .any (opsOf Tryz.f71 17) = S_mix.T17 := by kernel_rfl
theorem S_mix.bits17 : waitsOk S_mix.T17.2 S_mix.B17 = true := by kernel_rfl
def S_mix.T18 : Bool × List (List Nat × List Nat) := (true, [([], []), ([0], [0]), ([], []), ([2], [2]), ([], []), ([4, 3], [4]), ([3, 5], [3, 5]), ([], []), ([7, 5], [7]), ([6, 8], [6, 8]), ([1, 9], [1, 9]), ([], []), ([11], [11]), ([], []), ([], []), ([14], [14]), ([], []), ([16], [16]), ([15, 17], [15, 17]), ([13, 18], [13, 18]), ([12, 19], [12, 19]), ([10, 20], [10, 20]), ([], []), ([22], [22]), ([23], [23]), ([21, 24], [21, 24]), ([], []), ([25, 26], [25, 26]), ([27, 8, 0, 1, 2, 3, 4, 5, 6, 7, 8, 9, 10, 11, 12, 13, 14, 15, 16, 17, 18, 19, 20, 21, 22, 23, 24, 25, 26, 27], [27])])
def S_mix.B18 : List Nat := [0, 1, 0, 4, 0, 28, 60, 0, 188, 508, 1023, 0, 2048, 0, 0, 16384, 0, 65536, 245760, 516096, 1046528, 2097151, 0, 4194304, 12582912, 33554431, 0, 134217727, 268435455]
theorem S_mix.tab18 : rtab .any (opsOf Tryz.f71 18) = S_mix.T18 := by kernel_rfl
theorem S_mix.bits18 : waitsOk S_mix.T18.2 S_mix.B18 = true := by kernel_rfl
def S_mix.T19 : Bool × List (List Nat × List Nat) := (true, [([], []), ([0], [0]), ([], []), ([2, 1], [2]), ([1, 3], [1, 3]), ([], []), ([5, 3], [5]), ([4, 6], [4, 6]), ([], []), ([], []), ([9], [9]), ([8, 10], [8, 10]), ([], []), ([12], [12]), ([], []), ([], []), ([15], [15]), ([14, 16], [14, 16]), ([13, 17], [13, 17]), ([11, 18], [11, 18]), ([7, 19], [7, 19]), ([20, 6, 0, 1, 2, 3, 4, 5, 6, 7, 8, 9, 10, 11, 12, 13, 14, 15, 16, 17, 18, 19, 20], [20])])
def S_mix.B19 : List Nat := [0, 1, 0, 7, 15, 0, 47, 127, 0, 0, 512, 1792, 0, 4096, 0, 0, 32768, 114688, 258048, 524032, 1048575, 2097151]
theorem S_mix.tab19 : rtab .any (opsOf Tryz.f71 19) = S_mix.T19 := by kernel_rfl
theorem S_mix.bits19 : waitsOk S_mix.T19.2 S_mix.B19 = true := by kernel_rfl
def S_mix.T27 : Bool × List (List Nat × List Nat) := (true, [([], []), ([0], [0]), ([1], [1]), ([], []), ([3], [3]), ([4], [4]), ([2, 5], [2, 5]), ([0, 0, 1, 2, 3, 4, 5, 6], [0]), ([7, 6, 0, 1, 2, 3, 4, 5, 6], [6, 7])])
def S_mix.B27 : List Nat := [0, 1, 3, 0, 8, 24, 63, 127, 255]
theorem S_mix.tab27 : rtab .any (opsOf Tryz.f71 27) = S_mix.T27 := by kernel_rfl
theorem S_mix.bits27 : waitsOk S_mix.T27.2 S_mix.B27 = true := by kernel_rfl
set_option maxHeartbeats 8000000 in
set_option maxRecDepth 100000 in
theorem mix_calls (S l : List Int) (hS : S.length = 8) (A : Option Addr) (c : Nat) (w : World) (hr : (Kd.int .u8).C w A l.length l) (hl : 64 ≤ l.length) (hc : l.length ≤ c) :
  Calls Tryz.prog 71 #[.agg (u32s S), .slice A l.length c] w fun e w' => e = .returned (.agg (u32s (mixV S l))) ∧ Below w.heap.size w w' := by
 have HC := Aside0.mk hr
 have HL := Aside0.mk (show S.length = 8 ∧ 64 ≤ l.length ∧ l.length ≤ c from ⟨hS, hl, hc⟩)
 clear hr hl hc hS
 go_enter Tryz.func71, Tryz.ntmps71
 go_wp2_with (first
  | ((with_reducible refine gate_dst (N := 2) rfl ?_); refine box_v rfl rfl rfl ?_; intro bs hg w1 hb hw; have HB1 := Aside0.mk hw; have HG1 := Aside0.mk hg; have HS1 : Aside0 (ArrU w1 bs 163 S) := ⟨hb⟩; clear hb hw hg)
  | ((with_reducible refine gate_dst (N := 4) rfl ?_); refine alloc_v rfl rfl info163 ?hr ?_; (case hr => rfl); intro br hg w2 hb hw; have HB2 := Aside0.mk (below_step HB1.out hw); have HG2 := Aside0.mk hg; have HS2 := Aside0.mk (HS1.out.below hw); have HR2 : Aside0 (ArrU w2 br 163 (List.replicate 8 0)) := ⟨hb⟩; clear hb hw hg)
  | (go_at_call 77; refine (constants_calls _).mono ?_; rintro e w3 ⟨rfl, hw⟩; have HB3 := Aside0.mk (below_step HB2.out hw); have HS3 := Aside0.mk (HS2.out.below hw); have HR3 := Aside0.mk (HR2.out.below hw); have HZ3 := Aside0.mk hw.size; clear hw)
  | ((with_reducible refine gate_dst (N := 5) rfl ?_); refine alloc_v rfl rfl info173 ?hr ?_; (case hr => rfl); intro bk hg w4 hb hw; have HB4 := Aside0.mk (below_step HB3.out hw); have HG4 := Aside0.mk hg; have HS4 := Aside0.mk (HS3.out.below hw); have HR4 := Aside0.mk (HR3.out.below hw); have HK4 : Aside0 (ArrU w4 bk 173 (List.replicate 64 0)) := ⟨hb⟩; clear hb hw hg)
  | (refine store_row (t := 173) (e := 173) (g := bk) (cells := u32s K0) rfl rfl rfl rfl rfl HK4.out size173 rfl (u32s_one _) ?_; intro w5 hb hf; have HK5 : Aside0 (ArrU w5 bk 173 K0) := ⟨hb⟩; have HF5 := Aside0.mk hf; clear hb hf)
  | ((with_reducible refine gate_dst (N := 6) rfl ?_); refine alloc_v rfl rfl info175 ?hr ?_; (case hr => rfl); intro bw hg w6 hb hw; have HX6 : Aside0 (ArrU w6 bw 175 (List.replicate 16 0)) := ⟨hb⟩; have HW6 := Aside0.mk hw; have HG6 := Aside0.mk hg; clear hb hw hg))
 have HM : Aside0 (M1 w w6 bs br bk bw S (fillW l 0)) := ⟨by
  have o1 := HG1.out
  have o2 := HG2.out
  have o4 := HG4.out
  have o6 := HG6.out
  have s1 := HB1.out.size
  have b1 := blk_lt HS1.out
  have b2 := blk_lt HR2.out
  have b4 := blk_lt HK4.out
  have z3 := HZ3.out
  have z5 := HF5.out.size
  have n1 : bs < br := by omega
  have n2 : br < bk := by omega
  have n3 : bk < bw := by omega
  have b5 : Below w.heap.size w w5 := HB4.out.trans (HF5.out.belowB (by have := HB4.out.size; omega) (fun k hk => by omega))
  exact ⟨below_step b5 HW6.out, ⟨by omega, n1, n2, n3⟩, (HS4.out.fr HF5.out (by show ¬ bs = bk; omega)).below HW6.out, (HR4.out.fr HF5.out (by show ¬ br = bk; omega)).below HW6.out, HK5.out.below HW6.out, HX6.out⟩⟩
 clear HB1 HG1 HS1 HB2 HG2 HS2 HR2 HB3 HS3 HR3 HZ3 HB4 HG4 HS4 HR4 HK4 HK5 HF5 HX6 HW6 HG6
 go_loopg [19] 17 (fun kq v19 w' => ∃ i : Nat, v19 = .int .i64 (i : Int) ∧ Aside0 (kq = 17 - i ∧ i ≤ 16) ∧ Aside0 (M1 w w' bs br bk bw S (fillW l i)))
 case atStart => exact ⟨0, by first | rfl | simp, ⟨by omega⟩, HM⟩
 case round =>
  obtain ⟨i, rfl, HK, HM1⟩ := hrel
  clear HM
  by_cases c1 : (i : Int) < 16
  ·have c1b : decide ((i : Int) < 16) = true := decide_eq_true c1
   have hi : i < 16 := by omega
   clear c1
   obtain ⟨D, hD⟩ : ∃ D, D = l.drop (4 * i) := ⟨_, rfl⟩
   have hDl : D.length = l.length - 4 * i := by rw [hD, List.length_drop]
   obtain ⟨j5, hj5, hs5⟩ := info5
   obtain ⟨A', hA'⟩ : ∃ A', A' = (if c = 4 * i then A else A.map (·.add (4 * i * 1))) := ⟨_, rfl⟩
   have e4 : wrap64 (4 * (i : Int)) = ((4 * i : Nat) : Int) := by unfold wrap64; omega
   have hcut : ∀ W : World, (Instr.slice 22 (.slice A l.length c) (some (.int .i64 (wrap64 (4 * (i : Int))))) none none).run Tryz.prog W = .ok (.slice A' D.length (c - 4 * i)) W := by
    intro W
    rw [cut_from 22 5 .i64 Tryz.underlying22 hj5 1 hs5 A l.length c (wrap64 (4 * (i : Int))) (by rw [e4]; omega) (by rw [e4]; have := HL.out; omega) W, e4, hA', hDl]
    rfl
   have hcut2 : ∀ W : World, (Instr.slice 22 (.slice A l.length c) (some (.int .i64 (4 * (i : Int)))) none none).run Tryz.prog W = .ok (.slice A' D.length (c - 4 * i)) W := by
    intro W
    have := hcut W
    rw [e4] at this
    exact this
   have hC' : (Kd.int .u8).C w A' D.length D := by
    rw [hA', hD]
    exact Kd.C_drop HC.out (by have := HL.out; omega) HL.out.2.2
   have HC' := Aside0.mk hC'
   have HD := Aside0.mk hD
   have HDL : Aside0 (4 ≤ D.length ∧ D.length ≤ c - 4 * i) := ⟨by have := HL.out; omega⟩
   clear hC' hA' e4 hj5 hs5 hD hDl
   have hix := eq_true (show (i : Int) < 16 by omega)
   have hi0 := eq_true (show (0 : Int) ≤ (i : Int) by omega)
   go_wp2_with (first
    | (go_at_call 78; (with_reducible refine (sha_word.calls A' (c - 4 * i) D (wordV D) _ (Kd.C_below HC'.out HM1.out.bel) HDL.out.2 (word_some _ HDL.out.1)).mono ?_); rintro e w7 ⟨rfl, hd⟩; have HM2 := Aside0.mk (HM1.out.below hd.below); have hcell := HM2.out.x.cell i (by rw [fillW_len]; exact hi); have hfz := HM2.out.x.frozen i; clear hd))
   go_roundg (gk - 1)
   case measure => have := HK.out; omega
   case rel =>
    refine ⟨i + 1, by first | rfl | simp, ⟨by have := HK.out; omega⟩, ⟨?_⟩⟩
    rw [fillW, ← HD.out]
    exact HM2.out.setW i (wordV D)
  ·have hi : i = 16 := by have := HK.out; omega
   have c1b : decide ((i : Int) < 16) = false := decide_eq_false c1
   clear c1
   subst hi
   go_wp2_with (first
    | ((with_reducible refine gate_dst (N := 30) rfl ?_); refine wpList_load_row rfl 163 (.tmp 2) rfl bs rfl 163 (u32s S) (0, 0) _ HM1.out.s Tryz.underlying163 rfl (by rw [u32s_size, HL.out.1]; exact size163) ?_)
    | ((with_reducible refine gate_dst (N := 8) rfl ?_); refine alloc_v rfl rfl info163 ?hr ?_; (case hr => rfl); intro bv hg w8 hb hw; have HM2 := Aside0.mk (HM1.out.below hw); have HG8 := Aside0.mk hg; have HV8 : Aside0 (ArrU w8 bv 163 (List.replicate 8 0)) := ⟨hb⟩; clear hb hw hg)
    | (refine store_row (t := 163) (e := 163) (g := bv) (cells := u32s S) rfl rfl rfl rfl rfl HV8.out (by rw [u32s_size, HL.out.1]; exact size163) (by rw [u32s_size, u32s_size, HL.out.1]; rfl) (u32s_one _) ?_; intro w9 hb hf; have HV9 : Aside0 (ArrU w9 bv 163 S) := ⟨hb⟩; have HF9 := Aside0.mk hf; clear hb hf))
   have HQ : Aside0 (M2 w w9 bs br bk bw bv S (mixR S l 0).2 (mixR S l 0).1) := ⟨by
    have hg : bw < bv := by have := blk_lt HM1.out.x; have := HG8.out; omega
    have h0 : M2 w w8 bs br bk bw bv S (fillW l 16) (List.replicate 8 0) := ⟨HM2.out, hg, HV8.out⟩
    simp only [mixR]
    exact h0.frV HF9.out HV9.out⟩
   clear HM1 HM2 HG8 HV8 HV9 HF9 HK
   go_loopg [31] 65 (fun kq v31 w' => ∃ i : Nat, v31 = .int .i64 (i : Int) ∧ Aside0 (kq = 65 - i ∧ i ≤ 64) ∧ Aside0 (M2 w w' bs br bk bw bv S (mixR S l i).2 (mixR S l i).1))
   case atStart => exact ⟨0, by first | rfl | simp, ⟨by omega⟩, HQ⟩
   case round =>
    obtain ⟨i, rfl, HK, HM1⟩ := hrel
    clear HQ
    by_cases c1 : (i : Int) < 64
    ·have c1b : decide ((i : Int) < 64) = true := decide_eq_true c1
     have hix := eq_true c1
     have hi0 := eq_true (show (0 : Int) ≤ (i : Int) by omega)
     have hi : i < 64 := by omega
     clear c1
     obtain ⟨V, hV⟩ : ∃ V, (mixR S l i).1 = V := ⟨_, rfl⟩
     obtain ⟨W, hW⟩ : ∃ W, (mixR S l i).2 = W := ⟨_, rfl⟩
     have hVl := (mixR_len S l HL.out.1 i).1
     have hWl := (mixR_len S l HL.out.1 i).2
     rw [hV] at hVl
     rw [hW] at hWl
     rw [hV, hW] at HM1
     have HVW := Aside0.mk (show V.length = 8 ∧ W.length = 16 ∧ (mixR S l i).1 = V ∧ (mixR S l i).2 = W ∧ i < 64 from ⟨hVl, hWl, hV, hW, hi⟩)
     clear hV hW hVl hWl hi
     obtain ⟨y0, hy0⟩ : ∃ y, W.getD (i % 16) 0 = y := ⟨_, rfl⟩
     have HY0 := Aside0.mk hy0
     have hc0 := HM1.out.m.x.cell (i % 16) (by have := HVW.out; omega)
     rw [hy0] at hc0
     clear hy0
     go_upto_if 39 with (fail)
     go_cut [10] (fun v10 wc => v10 = .int .u32 (extW i W).1 ∧ Aside0 (M2 w wc bs br bk bw bv S (extW i W).2 V))
     case first =>
      by_cases c2 : (16 : Int) ≤ (i : Int)
      ·have c2b : decide ((16 : Int) ≤ (i : Int)) = true := decide_eq_true c2
       have HC2 := Aside0.mk (show 16 ≤ i by omega)
       clear c2
       rw [c2b]
       obtain ⟨j1, hj1⟩ : ∃ j : Nat, j = (i + 1) % 16 := ⟨_, rfl⟩
       obtain ⟨j9, hj9⟩ : ∃ j : Nat, j = (i + 9) % 16 := ⟨_, rfl⟩
       obtain ⟨j14, hj14⟩ : ∃ j : Nat, j = (i + 14) % 16 := ⟨_, rfl⟩
       have hw : ∀ n : Nat, n ≤ 14 → (wrap64 ((i : Int) + (n : Int))).tmod 16 = (((i + n) % 16 : Nat) : Int) := by
        intro n hn
        have : wrap64 ((i : Int) + (n : Int)) = ((i + n : Nat) : Int) := by have := HVW.out; unfold wrap64; omega
        rw [this]
        rfl
       have m1 : (wrap64 ((i : Int) + 1)).tmod 16 = (j1 : Int) := by rw [hj1]; exact hw 1 (by omega)
       have m9 : (wrap64 ((i : Int) + 9)).tmod 16 = (j9 : Int) := by rw [hj9]; exact hw 9 (by omega)
       have m14 : (wrap64 ((i : Int) + 14)).tmod 16 = (j14 : Int) := by rw [hj14]; exact hw 14 (by omega)
       have n1 := eq_true (show (j1 : Int) < 16 by omega)
       have n9 := eq_true (show (j9 : Int) < 16 by omega)
       have n14 := eq_true (show (j14 : Int) < 16 by omega)
       have z1 := eq_true (show (0 : Int) ≤ (j1 : Int) by omega)
       have z9 := eq_true (show (0 : Int) ≤ (j9 : Int) by omega)
       have z14 := eq_true (show (0 : Int) ≤ (j14 : Int) by omega)
       have HJ := Aside0.mk (show j1 = (i + 1) % 16 ∧ j9 = (i + 9) % 16 ∧ j14 = (i + 14) % 16 ∧ j1 < 16 ∧ j9 < 16 ∧ j14 < 16 by omega)
       clear hw hj1 hj9 hj14
       obtain ⟨y1, hy1⟩ : ∃ y, W.getD j1 0 = y := ⟨_, rfl⟩
       obtain ⟨y9, hy9⟩ : ∃ y, W.getD j9 0 = y := ⟨_, rfl⟩
       obtain ⟨y14, hy14⟩ : ∃ y, W.getD j14 0 = y := ⟨_, rfl⟩
       have HY := Aside0.mk (show W.getD j1 0 = y1 ∧ W.getD j9 0 = y9 ∧ W.getD j14 0 = y14 from ⟨hy1, hy9, hy14⟩)
       have HC1 := Aside0.mk (HM1.out.m.x.cell j1 (by have := HVW.out; have := HJ.out; omega))
       have HC9 := Aside0.mk (HM1.out.m.x.cell j9 (by have := HVW.out; have := HJ.out; omega))
       have HC14 := Aside0.mk (HM1.out.m.x.cell j14 (by have := HVW.out; have := HJ.out; omega))
       rw [hy1] at HC1
       rw [hy9] at HC9
       rw [hy14] at HC14
       clear hy1 hy9 hy14
       try go_wp2
       have HM_a := Aside0.mk HM1.out.drew
       have HC1_a : Aside0 (wr.drew.cell? ⟨bw, j1, none⟩ = some (.int .u32 y1)) := ⟨HC1.out⟩
       have HC14_a : Aside0 (wr.drew.cell? ⟨bw, j14, none⟩ = some (.int .u32 y14)) := ⟨HC14.out⟩
       have HC9_a : Aside0 (wr.drew.cell? ⟨bw, j9, none⟩ = some (.int .u32 y9)) := ⟨HC9.out⟩
       refine start_ (n := 12) (S := fun w' => w'.cell? ⟨bw, j1, none⟩ = some (.int .u32 y1) ∧ w'.cell? ⟨bw, j14, none⟩ = some (.int .u32 y14)) (ds := []) #[false, false, false, false, false, false, false, false, false, false, false, false] (by kernel_rfl) rfl rfl ⟨HC1.out, HC14.out⟩ (fun hHeld => ?_)
       refine with_tabW S_mix.tab14 S_mix.bits14 (fun HT_ HW_ => ?_)
       generalize wr.drew = w14 at HM_a HC1_a HC14_a HC9_a hHeld ⊢
       refine pure_ (i := 0) (N := some 40) (v := ?_) (a' := ?_) #[true, false, false, false, false, false, false, false, false, false, false, false] rfl rfl (any_of HT_.out (by kernel_rfl)) (fun _ _ _ h => h) (Or.inl ⟨by rfl, ?_⟩) ?_ ?_
       rotate_left
       ·intro w'
        go_simp
        with_reducible rfl
       rotate_left
       ·simp only [Act.put, List.setIfInBounds_toArray, List.set_cons_zero, List.set_cons_succ, i64_w, i32_w]
        rfl
       refine pure_ (i := 1) (N := some 41) (v := ?_) (a' := ?_) #[true, true, false, false, false, false, false, false, false, false, false, false] rfl rfl (any_of HT_.out (by kernel_rfl)) (fun _ _ _ h => h) (Or.inl ⟨by rfl, ?_⟩) ?_ ?_
       rotate_left
       ·intro w'
        go_simp
        with_reducible rfl
       rotate_left
       ·simp only [Act.put, List.setIfInBounds_toArray, List.set_cons_zero, List.set_cons_succ, i64_w, i32_w]
        rfl
       refine pure_ (i := 2) (N := some 42) (v := ?_) (a' := ?_) #[true, true, true, false, false, false, false, false, false, false, false, false] rfl rfl (any_of HT_.out (by kernel_rfl)) (fun _ _ _ h => h) (Or.inl ⟨by rfl, ?_⟩) ?_ ?_
       rotate_left
       ·intro w'
        go_simp
        with_reducible rfl
       rotate_left
       ·simp only [Act.put, List.setIfInBounds_toArray, List.set_cons_zero, List.set_cons_succ, i64_w, i32_w]
        rfl
       refine pure_ (i := 3) (N := some 43) (v := ?_) (a' := ?_) #[true, true, true, true, false, false, false, false, false, false, false, false] rfl rfl (any_of HT_.out (by kernel_rfl)) (fun _ _ _ h => h) (Or.inl ⟨by rfl, ?_⟩) ?_ ?_
       rotate_left
       ·intro w'
        go_simp
        with_reducible rfl
       rotate_left
       ·simp only [Act.put, List.setIfInBounds_toArray, List.set_cons_zero, List.set_cons_succ, i64_w, i32_w]
        rfl
       refine pure_ (i := 5) (N := some 45) (v := ?_) (a' := ?_) #[true, true, true, true, false, true, false, false, false, false, false, false] rfl rfl (any_of HT_.out (by kernel_rfl)) (fun _ _ _ h => h) (Or.inl ⟨by rfl, ?_⟩) ?_ ?_
       rotate_left
       ·intro w'
        go_simp
        with_reducible rfl
       rotate_left
       ·simp only [Act.put, List.setIfInBounds_toArray, List.set_cons_zero, List.set_cons_succ, i64_w, i32_w]
        rfl
       refine pure_ (i := 6) (N := some 46) (v := ?_) (a' := ?_) #[true, true, true, true, false, true, true, false, false, false, false, false] rfl rfl (any_of HT_.out (by kernel_rfl)) (fun _ _ _ h => h) (Or.inl ⟨by rfl, ?_⟩) ?_ ?_
       rotate_left
       ·intro w'
        go_simp
        with_reducible rfl
       rotate_left
       ·simp only [Act.put, List.setIfInBounds_toArray, List.set_cons_zero, List.set_cons_succ, i64_w, i32_w]
        rfl
       refine pure_ (i := 7) (N := some 47) (v := ?_) (a' := ?_) #[true, true, true, true, false, true, true, true, false, false, false, false] rfl rfl (any_of HT_.out (by kernel_rfl)) (fun _ _ _ h => h) (Or.inl ⟨by rfl, ?_⟩) ?_ ?_
       rotate_left
       ·intro w'
        go_simp
        with_reducible rfl
       rotate_left
       ·simp only [Act.put, List.setIfInBounds_toArray, List.set_cons_zero, List.set_cons_succ, i64_w, i32_w]
        rfl
       refine pure_ (i := 8) (N := some 48) (v := ?_) (a' := ?_) #[true, true, true, true, false, true, true, true, true, false, false, false] rfl rfl (any_of HT_.out (by kernel_rfl)) (fun _ _ _ h => h) (Or.inl ⟨by rfl, ?_⟩) ?_ ?_
       rotate_left
       ·intro w'
        go_simp
        with_reducible rfl
       rotate_left
       ·simp only [Act.put, List.setIfInBounds_toArray, List.set_cons_zero, List.set_cons_succ, i64_w, i32_w]
        rfl
       refine take_ (i := 4) (N := some 44) (v := ?_) (a' := ?_) #[true, true, true, true, true, true, true, true, true, false, false, false] rfl rfl (take_ofW HT_.out HW_.out (by kernel_rfl)) (fun _ _ _ h => h) (Or.inl ⟨by rfl, ?_⟩) hHeld ?_ ?_
       rotate_left
       ·rintro w' ⟨s0, s1⟩
        go_simp
        with_reducible rfl
       rotate_left
       ·simp only [Act.put, List.setIfInBounds_toArray, List.set_cons_zero, List.set_cons_succ, i64_w, i32_w]
        rfl
       refine pure_ (i := 10) (N := some 11) (v := ?_) (a' := ?_) #[true, true, true, true, true, true, true, true, true, false, true, false] rfl rfl (any_of HT_.out (by kernel_rfl)) (fun _ _ _ h => h) (Or.inl ⟨by rfl, ?_⟩) ?_ ?_
       rotate_left
       ·intro w'
        go_simp
        with_reducible rfl
       rotate_left
       ·simp only [Act.put, List.setIfInBounds_toArray, List.set_cons_zero, List.set_cons_succ, i64_w, i32_w]
        rfl
       refine take_ (i := 9) (N := some 49) (v := ?_) (a' := ?_) #[true, true, true, true, true, true, true, true, true, true, true, false] rfl rfl (take_ofW HT_.out HW_.out (by kernel_rfl)) (fun _ _ _ h => h) (Or.inl ⟨by rfl, ?_⟩) hHeld ?_ ?_
       rotate_left
       ·rintro w' ⟨s0, s1⟩
        go_simp
        with_reducible rfl
       rotate_left
       ·simp only [Act.put, List.setIfInBounds_toArray, List.set_cons_zero, List.set_cons_succ, i64_w, i32_w]
        rfl
       refine pure_ (i := 11) (N := some 12) (v := ?_) (a' := ?_) #[true, true, true, true, true, true, true, true, true, true, true, true] rfl rfl (any_of HT_.out (by kernel_rfl)) (fun _ _ _ h => h) (Or.inl ⟨by rfl, ?_⟩) ?_ ?_
       rotate_left
       ·intro w'
        go_simp
        with_reducible rfl
       rotate_left
       ·simp only [Act.put, List.setIfInBounds_toArray, List.set_cons_zero, List.set_cons_succ, i64_w, i32_w]
        rfl
       refine done_ (done_of HT_.out (by kernel_rfl)) ?_

       try go_wp2
       have HM_x15 := Aside0.mk HM_a.out.drew
       have HC9_x15 : Aside0 (w14.drew.cell? ⟨bw, j9, none⟩ = some (.int .u32 y9)) := ⟨HC9_a.out⟩
       refine start_ (n := 26) (S := fun w' => w'.cell? ⟨bw, j9, none⟩ = some (.int .u32 y9)) (ds := []) #[false, false, false, false, false, false, false, false, false, false, false, false, false, false, false, false, false, false, false, false, false, false, false, false, false, false] (by kernel_rfl) rfl rfl (HC9_x15.out) (fun hHeld => ?_)
       refine with_tabW S_mix.tab15 S_mix.bits15 (fun HT_ HW_ => ?_)
       generalize w14.drew = x15 at HM_x15 HC9_x15 hHeld ⊢
       refine pure_ (i := 0) (N := some 50) (v := ?_) (a' := ?_) #[true, false, false, false, false, false, false, false, false, false, false, false, false, false, false, false, false, false, false, false, false, false, false, false, false, false] rfl rfl (any_of HT_.out (by kernel_rfl)) (fun _ _ _ h => h) (Or.inl ⟨by rfl, ?_⟩) ?_ ?_
       rotate_left
       ·intro w'
        go_simp
        with_reducible rfl
       rotate_left
       ·simp only [Act.put, List.setIfInBounds_toArray, List.set_cons_zero, List.set_cons_succ, i64_w, i32_w]
        rfl
       refine pure_ (i := 1) (N := some 51) (v := ?_) (a' := ?_) #[true, true, false, false, false, false, false, false, false, false, false, false, false, false, false, false, false, false, false, false, false, false, false, false, false, false] rfl rfl (any_of HT_.out (by kernel_rfl)) (fun _ _ _ h => h) (Or.inl ⟨by rfl, ?_⟩) ?_ ?_
       rotate_left
       ·intro w'
        go_simp
        with_reducible rfl
       rotate_left
       ·simp only [Act.put, List.setIfInBounds_toArray, List.set_cons_zero, List.set_cons_succ, i64_w, i32_w]
        rfl
       refine pure_ (i := 2) (N := some 52) (v := ?_) (a' := ?_) #[true, true, true, false, false, false, false, false, false, false, false, false, false, false, false, false, false, false, false, false, false, false, false, false, false, false] rfl rfl (any_of HT_.out (by kernel_rfl)) (fun _ _ _ h => h) (Or.inl ⟨by rfl, ?_⟩) ?_ ?_
       rotate_left
       ·intro w'
        go_simp
        with_reducible rfl
       rotate_left
       ·simp only [Act.put, List.setIfInBounds_toArray, List.set_cons_zero, List.set_cons_succ, i64_w, i32_w]
        rfl
       refine pure_ (i := 3) (N := some 53) (v := ?_) (a' := ?_) #[true, true, true, true, false, false, false, false, false, false, false, false, false, false, false, false, false, false, false, false, false, false, false, false, false, false] rfl rfl (any_of HT_.out (by kernel_rfl)) (fun _ _ _ h => h) (Or.inl ⟨by rfl, ?_⟩) ?_ ?_
       rotate_left
       ·intro w'
        go_simp
        with_reducible rfl
       rotate_left
       ·simp only [Act.put, List.setIfInBounds_toArray, List.set_cons_zero, List.set_cons_succ, i64_w, i32_w]
        rfl
       refine pure_ (i := 4) (N := some 54) (v := ?_) (a' := ?_) #[true, true, true, true, true, false, false, false, false, false, false, false, false, false, false, false, false, false, false, false, false, false, false, false, false, false] rfl rfl (any_of HT_.out (by kernel_rfl)) (fun _ _ _ h => h) (Or.inl ⟨by rfl, ?_⟩) ?_ ?_
       rotate_left
       ·intro w'
        go_simp
        with_reducible rfl
       rotate_left
       ·simp only [Act.put, List.setIfInBounds_toArray, List.set_cons_zero, List.set_cons_succ, i64_w, i32_w]
        rfl
       refine pure_ (i := 6) (N := some 56) (v := ?_) (a' := ?_) #[true, true, true, true, true, false, true, false, false, false, false, false, false, false, false, false, false, false, false, false, false, false, false, false, false, false] rfl rfl (any_of HT_.out (by kernel_rfl)) (fun _ _ _ h => h) (Or.inl ⟨by rfl, ?_⟩) ?_ ?_
       rotate_left
       ·intro w'
        go_simp
        with_reducible rfl
       rotate_left
       ·simp only [Act.put, List.setIfInBounds_toArray, List.set_cons_zero, List.set_cons_succ, i64_w, i32_w]
        rfl
       refine pure_ (i := 8) (N := some 58) (v := ?_) (a' := ?_) #[true, true, true, true, true, false, true, false, true, false, false, false, false, false, false, false, false, false, false, false, false, false, false, false, false, false] rfl rfl (any_of HT_.out (by kernel_rfl)) (fun _ _ _ h => h) (Or.inl ⟨by rfl, ?_⟩) ?_ ?_
       rotate_left
       ·intro w'
        go_simp
        with_reducible rfl
       rotate_left
       ·simp only [Act.put, List.setIfInBounds_toArray, List.set_cons_zero, List.set_cons_succ, i64_w, i32_w]
        rfl
       refine pure_ (i := 11) (N := some 61) (v := ?_) (a' := ?_) #[true, true, true, true, true, false, true, false, true, false, false, true, false, false, false, false, false, false, false, false, false, false, false, false, false, false] rfl rfl (any_of HT_.out (by kernel_rfl)) (fun _ _ _ h => h) (Or.inl ⟨by rfl, ?_⟩) ?_ ?_
       rotate_left
       ·intro w'
        go_simp
        with_reducible rfl
       rotate_left
       ·simp only [Act.put, List.setIfInBounds_toArray, List.set_cons_zero, List.set_cons_succ, i64_w, i32_w]
        rfl
       refine pure_ (i := 12) (N := some 62) (v := ?_) (a' := ?_) #[true, true, true, true, true, false, true, false, true, false, false, true, true, false, false, false, false, false, false, false, false, false, false, false, false, false] rfl rfl (any_of HT_.out (by kernel_rfl)) (fun _ _ _ h => h) (Or.inl ⟨by rfl, ?_⟩) ?_ ?_
       rotate_left
       ·intro w'
        go_simp
        with_reducible rfl
       rotate_left
       ·simp only [Act.put, List.setIfInBounds_toArray, List.set_cons_zero, List.set_cons_succ, i64_w, i32_w]
        rfl
       refine pure_ (i := 15) (N := some 65) (v := ?_) (a' := ?_) #[true, true, true, true, true, false, true, false, true, false, false, true, true, false, false, true, false, false, false, false, false, false, false, false, false, false] rfl rfl (any_of HT_.out (by kernel_rfl)) (fun _ _ _ h => h) (Or.inl ⟨by rfl, ?_⟩) ?_ ?_
       rotate_left
       ·intro w'
        go_simp
        with_reducible rfl
       rotate_left
       ·simp only [Act.put, List.setIfInBounds_toArray, List.set_cons_zero, List.set_cons_succ, i64_w, i32_w]
        rfl
       refine pure_ (i := 17) (N := some 67) (v := ?_) (a' := ?_) #[true, true, true, true, true, false, true, false, true, false, false, true, true, false, false, true, false, true, false, false, false, false, false, false, false, false] rfl rfl (any_of HT_.out (by kernel_rfl)) (fun _ _ _ h => h) (Or.inl ⟨by rfl, ?_⟩) ?_ ?_
       rotate_left
       ·intro w'
        go_simp
        with_reducible rfl
       rotate_left
       ·simp only [Act.put, List.setIfInBounds_toArray, List.set_cons_zero, List.set_cons_succ, i64_w, i32_w]
        rfl
       refine pure_ (i := 20) (N := some 70) (v := ?_) (a' := ?_) #[true, true, true, true, true, false, true, false, true, false, false, true, true, false, false, true, false, true, false, false, true, false, false, false, false, false] rfl rfl (any_of HT_.out (by kernel_rfl)) (fun _ _ _ h => h) (Or.inl ⟨by rfl, ?_⟩) ?_ ?_
       rotate_left
       ·intro w'
        go_simp
        with_reducible rfl
       rotate_left
       ·simp only [Act.put, List.setIfInBounds_toArray, List.set_cons_zero, List.set_cons_succ, i64_w, i32_w]
        rfl
       refine pure_ (i := 21) (N := some 71) (v := ?_) (a' := ?_) #[true, true, true, true, true, false, true, false, true, false, false, true, true, false, false, true, false, true, false, false, true, true, false, false, false, false] rfl rfl (any_of HT_.out (by kernel_rfl)) (fun _ _ _ h => h) (Or.inl ⟨by rfl, ?_⟩) ?_ ?_
       rotate_left
       ·intro w'
        go_simp
        with_reducible rfl
       rotate_left
       ·simp only [Act.put, List.setIfInBounds_toArray, List.set_cons_zero, List.set_cons_succ, i64_w, i32_w]
        rfl
       refine take_ (i := 5) (N := some 55) (v := ?_) (a' := ?_) #[true, true, true, true, true, true, true, false, true, false, false, true, true, false, false, true, false, true, false, false, true, true, false, false, false, false] rfl rfl (take_ofW HT_.out HW_.out (by kernel_rfl)) (fun _ _ _ h => h) (Or.inl ⟨by rfl, ?_⟩) hHeld ?_ ?_
       rotate_left
       ·intro w' s0
        go_simp
        with_reducible rfl
       rotate_left
       ·simp only [Act.put, List.setIfInBounds_toArray, List.set_cons_zero, List.set_cons_succ, i64_w, i32_w]
        rfl
       refine one_ (i := 7) (N := some 57) #[true, true, true, true, true, true, true, true, true, false, false, true, true, false, false, true, false, true, false, false, true, true, false, false, false, false] rfl rfl (one_of HT_.out (by kernel_rfl)) (by decide) (fun K hK => ?_)
       refine goes_ Tryz.func79 (by kernel_rfl) rfl #[.int .u32 y1, .int .i64 7] (by rfl) rfl rfl (by simp only [List.map_toArray, List.map_cons, List.map_nil]; rfl) ?_
       with_reducible refine (turn_calls y1 7 (by decide) _).mono ?_
       rintro e x15_1 ⟨rfl, m7, hm7⟩
       refine ⟨_, rfl, ?_⟩
       have HM_x15_1 := Aside0.mk (show M2 w x15_1 bs br bk bw bv S W V by rw [hm7]; exact HM_x15.out.drewN m7)
       have HC9_x15_1 := Aside0.mk (show x15_1.cell? ⟨bw, j9, none⟩ = some (.int .u32 y9) by rw [hm7]; exact HC9_x15.out)
       clear hm7
       refine hK.out _ _ (HC9_x15_1.out) (fun hHeld => ?_)
       clear hK K
       refine norm_ (a' := ?_) ?_ ?_
       rotate_left
       ·show Act.put _ (some 57) _ = _
        simp only [Act.put, List.setIfInBounds_toArray, List.set_cons_zero, List.set_cons_succ, i64_w, i32_w]
        rfl
       refine one_ (i := 9) (N := some 59) #[true, true, true, true, true, true, true, true, true, true, false, true, true, false, false, true, false, true, false, false, true, true, false, false, false, false] rfl rfl (one_of HT_.out (by kernel_rfl)) (by decide) (fun K hK => ?_)
       refine goes_ Tryz.func79 (by kernel_rfl) rfl #[.int .u32 y1, .int .i64 18] (by rfl) rfl rfl (by simp only [List.map_toArray, List.map_cons, List.map_nil]; rfl) ?_
       with_reducible refine (turn_calls y1 18 (by decide) _).mono ?_
       rintro e x15_2 ⟨rfl, m9, hm9⟩
       refine ⟨_, rfl, ?_⟩
       have HM_x15_2 := Aside0.mk (show M2 w x15_2 bs br bk bw bv S W V by rw [hm9]; exact HM_x15_1.out.drewN m9)
       have HC9_x15_2 := Aside0.mk (show x15_2.cell? ⟨bw, j9, none⟩ = some (.int .u32 y9) by rw [hm9]; exact HC9_x15_1.out)
       clear hm9
       refine hK.out _ _ (HC9_x15_2.out) (fun hHeld => ?_)
       clear hK K
       refine norm_ (a' := ?_) ?_ ?_
       rotate_left
       ·show Act.put _ (some 59) _ = _
        simp only [Act.put, List.setIfInBounds_toArray, List.set_cons_zero, List.set_cons_succ, i64_w, i32_w]
        rfl
       refine pure_ (i := 10) (N := some 60) (v := ?_) (a' := ?_) #[true, true, true, true, true, true, true, true, true, true, true, true, true, false, false, true, false, true, false, false, true, true, false, false, false, false] rfl rfl (any_of HT_.out (by kernel_rfl)) (fun _ _ _ h => h) (Or.inl ⟨by rfl, ?_⟩) ?_ ?_
       rotate_left
       ·intro w'
        go_simp
        with_reducible rfl
       rotate_left
       ·simp only [Act.put, List.setIfInBounds_toArray, List.set_cons_zero, List.set_cons_succ, i64_w, i32_w]
        rfl
       refine pure_ (i := 13) (N := some 63) (v := ?_) (a' := ?_) #[true, true, true, true, true, true, true, true, true, true, true, true, true, true, false, true, false, true, false, false, true, true, false, false, false, false] rfl rfl (any_of HT_.out (by kernel_rfl)) (fun _ _ _ h => h) (Or.inl ⟨by rfl, ?_⟩) ?_ ?_
       rotate_left
       ·intro w'
        go_simp
        with_reducible rfl
       rotate_left
       ·simp only [Act.put, List.setIfInBounds_toArray, List.set_cons_zero, List.set_cons_succ, i64_w, i32_w]
        rfl
       refine pure_ (i := 14) (N := some 64) (v := ?_) (a' := ?_) #[true, true, true, true, true, true, true, true, true, true, true, true, true, true, true, true, false, true, false, false, true, true, false, false, false, false] rfl rfl (any_of HT_.out (by kernel_rfl)) (fun _ _ _ h => h) (Or.inl ⟨by rfl, ?_⟩) ?_ ?_
       rotate_left
       ·intro w'
        go_simp
        with_reducible rfl
       rotate_left
       ·simp only [Act.put, List.setIfInBounds_toArray, List.set_cons_zero, List.set_cons_succ, i64_w, i32_w]
        rfl
       refine one_ (i := 16) (N := some 66) #[true, true, true, true, true, true, true, true, true, true, true, true, true, true, true, true, true, true, false, false, true, true, false, false, false, false] rfl rfl (one_of HT_.out (by kernel_rfl)) (by decide) (fun K hK => ?_)
       refine goes_ Tryz.func79 (by kernel_rfl) rfl #[.int .u32 y14, .int .i64 17] (by rfl) rfl rfl (by simp only [List.map_toArray, List.map_cons, List.map_nil]; rfl) ?_
       with_reducible refine (turn_calls y14 17 (by decide) _).mono ?_
       rintro e x15_3 ⟨rfl, m16, hm16⟩
       refine ⟨_, rfl, ?_⟩
       have HM_x15_3 := Aside0.mk (show M2 w x15_3 bs br bk bw bv S W V by rw [hm16]; exact HM_x15_2.out.drewN m16)
       have HC9_x15_3 := Aside0.mk (show x15_3.cell? ⟨bw, j9, none⟩ = some (.int .u32 y9) by rw [hm16]; exact HC9_x15_2.out)
       clear hm16
       refine hK.out _ _ (HC9_x15_3.out) (fun hHeld => ?_)
       clear hK K
       refine norm_ (a' := ?_) ?_ ?_
       rotate_left
       ·show Act.put _ (some 66) _ = _
        simp only [Act.put, List.setIfInBounds_toArray, List.set_cons_zero, List.set_cons_succ, i64_w, i32_w]
        rfl
       refine one_ (i := 18) (N := some 68) #[true, true, true, true, true, true, true, true, true, true, true, true, true, true, true, true, true, true, true, false, true, true, false, false, false, false] rfl rfl (one_of HT_.out (by kernel_rfl)) (by decide) (fun K hK => ?_)
       refine goes_ Tryz.func79 (by kernel_rfl) rfl #[.int .u32 y14, .int .i64 19] (by rfl) rfl rfl (by simp only [List.map_toArray, List.map_cons, List.map_nil]; rfl) ?_
       with_reducible refine (turn_calls y14 19 (by decide) _).mono ?_
       rintro e x15_4 ⟨rfl, m18, hm18⟩
       refine ⟨_, rfl, ?_⟩
       have HM_x15_4 := Aside0.mk (show M2 w x15_4 bs br bk bw bv S W V by rw [hm18]; exact HM_x15_3.out.drewN m18)
       have HC9_x15_4 := Aside0.mk (show x15_4.cell? ⟨bw, j9, none⟩ = some (.int .u32 y9) by rw [hm18]; exact HC9_x15_3.out)
       clear hm18
       refine hK.out _ _ (HC9_x15_4.out) (fun hHeld => ?_)
       clear hK K
       refine norm_ (a' := ?_) ?_ ?_
       rotate_left
       ·show Act.put _ (some 68) _ = _
        simp only [Act.put, List.setIfInBounds_toArray, List.set_cons_zero, List.set_cons_succ, i64_w, i32_w]
        rfl
       refine pure_ (i := 19) (N := some 69) (v := ?_) (a' := ?_) #[true, true, true, true, true, true, true, true, true, true, true, true, true, true, true, true, true, true, true, true, true, true, false, false, false, false] rfl rfl (any_of HT_.out (by kernel_rfl)) (fun _ _ _ h => h) (Or.inl ⟨by rfl, ?_⟩) ?_ ?_
       rotate_left
       ·intro w'
        go_simp
        with_reducible rfl
       rotate_left
       ·simp only [Act.put, List.setIfInBounds_toArray, List.set_cons_zero, List.set_cons_succ, i64_w, i32_w]
        rfl
       refine pure_ (i := 22) (N := some 72) (v := ?_) (a' := ?_) #[true, true, true, true, true, true, true, true, true, true, true, true, true, true, true, true, true, true, true, true, true, true, true, false, false, false] rfl rfl (any_of HT_.out (by kernel_rfl)) (fun _ _ _ h => h) (Or.inl ⟨by rfl, ?_⟩) ?_ ?_
       rotate_left
       ·intro w'
        go_simp
        with_reducible rfl
       rotate_left
       ·simp only [Act.put, List.setIfInBounds_toArray, List.set_cons_zero, List.set_cons_succ, i64_w, i32_w]
        rfl
       refine pure_ (i := 23) (N := some 73) (v := ?_) (a' := ?_) #[true, true, true, true, true, true, true, true, true, true, true, true, true, true, true, true, true, true, true, true, true, true, true, true, false, false] rfl rfl (any_of HT_.out (by kernel_rfl)) (fun _ _ _ h => h) (Or.inl ⟨by rfl, ?_⟩) ?_ ?_
       rotate_left
       ·intro w'
        go_simp
        with_reducible rfl
       rotate_left
       ·simp only [Act.put, List.setIfInBounds_toArray, List.set_cons_zero, List.set_cons_succ, i64_w, i32_w]
        rfl
       refine pure_ (i := 24) (N := some 74) (v := ?_) (a' := ?_) #[true, true, true, true, true, true, true, true, true, true, true, true, true, true, true, true, true, true, true, true, true, true, true, true, true, false] rfl rfl (any_of HT_.out (by kernel_rfl)) (fun _ _ _ h => h) (Or.inl ⟨by rfl, ?_⟩) ?_ ?_
       rotate_left
       ·intro w'
        go_simp
        with_reducible rfl
       rotate_left
       ·simp only [Act.put, List.setIfInBounds_toArray, List.set_cons_zero, List.set_cons_succ, i64_w, i32_w]
        rfl
       refine pure_ (i := 25) (N := some 10) (v := ?_) (a' := ?_) #[true, true, true, true, true, true, true, true, true, true, true, true, true, true, true, true, true, true, true, true, true, true, true, true, true, true] rfl rfl (any_of HT_.out (by kernel_rfl)) (fun _ _ _ h => h) (Or.inl ⟨by rfl, ?_⟩) ?_ ?_
       rotate_left
       ·intro w'
        go_simp
        with_reducible rfl
       rotate_left
       ·simp only [Act.put, List.setIfInBounds_toArray, List.set_cons_zero, List.set_cons_succ, i64_w, i32_w]
        rfl
       refine done_ (done_of HT_.out (by kernel_rfl)) ?_

       have hcs := HM_x15_4.out.m.x.cell (i % 16) (by have := HVW.out; omega)
       have hfs := HM_x15_4.out.m.x.frozen (i % 16)
       rw [HY0.out] at hcs
       go_wp2
       go_meet
       case rel =>
        have e : extW i W = (IntKind.u32.wrap (y0 + IntKind.u32.wrap (IntKind.u32.wrap (y9 + Go.bits .xor .u32 (Go.bits .xor .u32 (turnV y1 7) (turnV y1 18)) (y1 / 8)) + Go.bits .xor .u32 (Go.bits .xor .u32 (turnV y14 17) (turnV y14 19)) (y14 / 1024))), W.set (i % 16) (IntKind.u32.wrap (y0 + IntKind.u32.wrap (IntKind.u32.wrap (y9 + Go.bits .xor .u32 (Go.bits .xor .u32 (turnV y1 7) (turnV y1 18)) (y1 / 8)) + Go.bits .xor .u32 (Go.bits .xor .u32 (turnV y14 17) (turnV y14 19)) (y14 / 1024))))) := by
         unfold extW
         rw [if_pos HC2.out]
         have hj := HJ.out
         have hy := HY.out
         rw [hj.1, hj.2.1, hj.2.2.1] at hy
         simp only [hy.1, hy.2.1, hy.2.2, HY0.out]
        rw [e]
        exact ⟨rfl, ⟨HM_x15_4.out.setW (i % 16) _⟩⟩
      ·have c2b : decide ((16 : Int) ≤ (i : Int)) = false := decide_eq_false c2
       have HC2 := Aside0.mk (show ¬ 16 ≤ i by omega)
       clear c2
       rw [c2b]
       go_wp2
       go_meet
       case rel =>
        have e : extW i W = (W.getD (i % 16) 0, W) := by unfold extW; rw [if_neg HC2.out]
        rw [e]
        exact ⟨by rw [HY0.out], HM1⟩
     case rest =>
      clear hc0 HM1 HY0
      obtain ⟨hv10, HM2⟩ := hcut
      obtain ⟨x, hx⟩ : ∃ x, (extW i W).1 = x := ⟨_, rfl⟩
      obtain ⟨W', hW'⟩ : ∃ W', (extW i W).2 = W' := ⟨_, rfl⟩
      rw [hx] at hv10
      rw [hW'] at HM2
      have HXW := Aside0.mk (show (extW i W).1 = x ∧ (extW i W).2 = W' from ⟨hx, hW'⟩)
      clear hx hW'
      subst hv10
      obtain ⟨a0, a1, a2, a3, a4, a5, a6, a7, hV⟩ : ∃ a0 a1 a2 a3 a4 a5 a6 a7, V = [a0, a1, a2, a3, a4, a5, a6, a7] := by
       have hl := HVW.out.1
       match V, hl with
       | [a0, a1, a2, a3, a4, a5, a6, a7], _ => exact ⟨a0, a1, a2, a3, a4, a5, a6, a7, rfl⟩
      subst hV
      obtain ⟨kk, hkk⟩ : ∃ kk, K0.getD i 0 = kk := ⟨_, rfl⟩
      have HKK := Aside0.mk hkk
      clear hkk
      try go_wp2
      have HM_x17 := Aside0.mk HM2.out.drew
      refine start_ (n := 6) (S := fun w' => w'.cell? ⟨bv, 4, none⟩ = some (.int .u32 a4) ∧ w'.cell? ⟨bv, 0, none⟩ = some (.int .u32 a0)) (ds := []) #[false, false, false, false, false, false] (by kernel_rfl) rfl rfl ⟨(HM_x17.out.v.cell 4 (by simp)), (HM_x17.out.v.cell 0 (by simp))⟩ (fun hHeld => ?_)
      refine with_tabW S_mix.tab17 S_mix.bits17 (fun HT_ HW_ => ?_)
      generalize wc.drew = x17 at HM_x17 hHeld ⊢
      refine pure_ (i := 0) (N := some 79) (v := ?_) (a' := ?_) #[true, false, false, false, false, false] rfl rfl (any_of HT_.out (by kernel_rfl)) (fun _ _ _ h => h) (Or.inl ⟨by rfl, ?_⟩) ?_ ?_
      rotate_left
      ·intro w'
       go_simp
       with_reducible rfl
      rotate_left
      ·simp only [Act.put, List.setIfInBounds_toArray, List.set_cons_zero, List.set_cons_succ, i64_w, i32_w]
       rfl
      refine pure_ (i := 2) (N := some 81) (v := ?_) (a' := ?_) #[true, false, true, false, false, false] rfl rfl (any_of HT_.out (by kernel_rfl)) (fun _ _ _ h => h) (Or.inl ⟨by rfl, ?_⟩) ?_ ?_
      rotate_left
      ·intro w'
       go_simp
       with_reducible rfl
      rotate_left
      ·simp only [Act.put, List.setIfInBounds_toArray, List.set_cons_zero, List.set_cons_succ, i64_w, i32_w]
       rfl
      refine take_ (i := 1) (N := some 80) (v := ?_) (a' := ?_) #[true, true, true, false, false, false] rfl rfl (take_ofW HT_.out HW_.out (by kernel_rfl)) (fun _ _ _ h => h) (Or.inl ⟨by rfl, ?_⟩) hHeld ?_ ?_
      rotate_left
      ·rintro w' ⟨s0, s1⟩
       go_simp
       with_reducible rfl
      rotate_left
      ·simp only [Act.put, List.setIfInBounds_toArray, List.set_cons_zero, List.set_cons_succ, i64_w, i32_w]
       rfl
      refine pure_ (i := 4) (N := some 13) (v := ?_) (a' := ?_) #[true, true, true, false, true, false] rfl rfl (any_of HT_.out (by kernel_rfl)) (fun _ _ _ h => h) (Or.inl ⟨by rfl, ?_⟩) ?_ ?_
      rotate_left
      ·intro w'
       go_simp
       with_reducible rfl
      rotate_left
      ·simp only [Act.put, List.setIfInBounds_toArray, List.set_cons_zero, List.set_cons_succ, i64_w, i32_w]
       rfl
      refine take_ (i := 3) (N := some 82) (v := ?_) (a' := ?_) #[true, true, true, true, true, false] rfl rfl (take_ofW HT_.out HW_.out (by kernel_rfl)) (fun _ _ _ h => h) (Or.inl ⟨by rfl, ?_⟩) hHeld ?_ ?_
      rotate_left
      ·rintro w' ⟨s0, s1⟩
       go_simp
       with_reducible rfl
      rotate_left
      ·simp only [Act.put, List.setIfInBounds_toArray, List.set_cons_zero, List.set_cons_succ, i64_w, i32_w]
       rfl
      refine pure_ (i := 5) (N := some 14) (v := ?_) (a' := ?_) #[true, true, true, true, true, true] rfl rfl (any_of HT_.out (by kernel_rfl)) (fun _ _ _ h => h) (Or.inl ⟨by rfl, ?_⟩) ?_ ?_
      rotate_left
      ·intro w'
       go_simp
       with_reducible rfl
      rotate_left
      ·simp only [Act.put, List.setIfInBounds_toArray, List.set_cons_zero, List.set_cons_succ, i64_w, i32_w]
       rfl
      refine done_ (done_of HT_.out (by kernel_rfl)) ?_

      try go_wp2
      have HM_x18 := Aside0.mk HM_x17.out.drew
      have HC_x18 : Aside0 (x17.drew.cell? ⟨bk, i, none⟩ = some (.int .u32 kk)) := ⟨by have := HM_x17.out.m.k.cell i (by rw [K0_len]; exact HVW.out.2.2.2.2); rw [HKK.out] at this; exact this⟩
      refine start_ (n := 29) (S := fun w' => w'.cell? ⟨bv, 7, none⟩ = some (.int .u32 a7) ∧ w'.cell? ⟨bv, 6, none⟩ = some (.int .u32 a6) ∧ w'.cell? ⟨bv, 5, none⟩ = some (.int .u32 a5) ∧ w'.cell? ⟨bk, i, none⟩ = some (.int .u32 kk)) (ds := []) #[false, false, false, false, false, false, false, false, false, false, false, false, false, false, false, false, false, false, false, false, false, false, false, false, false, false, false, false, false] (by kernel_rfl) rfl rfl ⟨(HM_x18.out.v.cell 7 (by simp)), (HM_x18.out.v.cell 6 (by simp)), (HM_x18.out.v.cell 5 (by simp)), HC_x18.out⟩ (fun hHeld => ?_)
      refine with_tabW S_mix.tab18 S_mix.bits18 (fun HT_ HW_ => ?_)
      generalize x17.drew = x18 at HM_x18 HC_x18 hHeld ⊢
      refine pure_ (i := 0) (N := some 83) (v := ?_) (a' := ?_) #[true, false, false, false, false, false, false, false, false, false, false, false, false, false, false, false, false, false, false, false, false, false, false, false, false, false, false, false, false] rfl rfl (any_of HT_.out (by kernel_rfl)) (fun _ _ _ h => h) (Or.inl ⟨by rfl, ?_⟩) ?_ ?_
      rotate_left
      ·intro w'
       go_simp
       with_reducible rfl
      rotate_left
      ·simp only [Act.put, List.setIfInBounds_toArray, List.set_cons_zero, List.set_cons_succ, i64_w, i32_w]
       rfl
      refine pure_ (i := 2) (N := some 85) (v := ?_) (a' := ?_) #[true, false, true, false, false, false, false, false, false, false, false, false, false, false, false, false, false, false, false, false, false, false, false, false, false, false, false, false, false] rfl rfl (any_of HT_.out (by kernel_rfl)) (fun _ _ _ h => h) (Or.inl ⟨by rfl, ?_⟩) ?_ ?_
      rotate_left
      ·intro w'
       go_simp
       with_reducible rfl
      rotate_left
      ·simp only [Act.put, List.setIfInBounds_toArray, List.set_cons_zero, List.set_cons_succ, i64_w, i32_w]
       rfl
      refine pure_ (i := 4) (N := some 87) (v := ?_) (a' := ?_) #[true, false, true, false, true, false, false, false, false, false, false, false, false, false, false, false, false, false, false, false, false, false, false, false, false, false, false, false, false] rfl rfl (any_of HT_.out (by kernel_rfl)) (fun _ _ _ h => h) (Or.inl ⟨by rfl, ?_⟩) ?_ ?_
      rotate_left
      ·intro w'
       go_simp
       with_reducible rfl
      rotate_left
      ·simp only [Act.put, List.setIfInBounds_toArray, List.set_cons_zero, List.set_cons_succ, i64_w, i32_w]
       rfl
      refine pure_ (i := 7) (N := some 90) (v := ?_) (a' := ?_) #[true, false, true, false, true, false, false, true, false, false, false, false, false, false, false, false, false, false, false, false, false, false, false, false, false, false, false, false, false] rfl rfl (any_of HT_.out (by kernel_rfl)) (fun _ _ _ h => h) (Or.inl ⟨by rfl, ?_⟩) ?_ ?_
      rotate_left
      ·intro w'
       go_simp
       with_reducible rfl
      rotate_left
      ·simp only [Act.put, List.setIfInBounds_toArray, List.set_cons_zero, List.set_cons_succ, i64_w, i32_w]
       rfl
      refine pure_ (i := 11) (N := some 94) (v := ?_) (a' := ?_) #[true, false, true, false, true, false, false, true, false, false, false, true, false, false, false, false, false, false, false, false, false, false, false, false, false, false, false, false, false] rfl rfl (any_of HT_.out (by kernel_rfl)) (fun _ _ _ h => h) (Or.inl ⟨by rfl, ?_⟩) ?_ ?_
      rotate_left
      ·intro w'
       go_simp
       with_reducible rfl
      rotate_left
      ·simp only [Act.put, List.setIfInBounds_toArray, List.set_cons_zero, List.set_cons_succ, i64_w, i32_w]
       rfl
      refine pure_ (i := 13) (N := some 96) (v := ?_) (a' := ?_) #[true, false, true, false, true, false, false, true, false, false, false, true, false, true, false, false, false, false, false, false, false, false, false, false, false, false, false, false, false] rfl rfl (any_of HT_.out (by kernel_rfl)) (fun _ _ _ h => h) (Or.inl ⟨by rfl, ?_⟩) ?_ ?_
      rotate_left
      ·intro w'
       go_simp
       with_reducible rfl
      rotate_left
      ·simp only [Act.put, List.setIfInBounds_toArray, List.set_cons_zero, List.set_cons_succ, i64_w, i32_w]
       rfl
      refine pure_ (i := 14) (N := some 97) (v := ?_) (a' := ?_) #[true, false, true, false, true, false, false, true, false, false, false, true, false, true, true, false, false, false, false, false, false, false, false, false, false, false, false, false, false] rfl rfl (any_of HT_.out (by kernel_rfl)) (fun _ _ _ h => h) (Or.inl ⟨by rfl, ?_⟩) ?_ ?_
      rotate_left
      ·intro w'
       go_simp
       with_reducible rfl
      rotate_left
      ·simp only [Act.put, List.setIfInBounds_toArray, List.set_cons_zero, List.set_cons_succ, i64_w, i32_w]
       rfl
      refine pure_ (i := 16) (N := some 99) (v := ?_) (a' := ?_) #[true, false, true, false, true, false, false, true, false, false, false, true, false, true, true, false, true, false, false, false, false, false, false, false, false, false, false, false, false] rfl rfl (any_of HT_.out (by kernel_rfl)) (fun _ _ _ h => h) (Or.inl ⟨by rfl, ?_⟩) ?_ ?_
      rotate_left
      ·intro w'
       go_simp
       with_reducible rfl
      rotate_left
      ·simp only [Act.put, List.setIfInBounds_toArray, List.set_cons_zero, List.set_cons_succ, i64_w, i32_w]
       rfl
      refine pure_ (i := 22) (N := some 105) (v := ?_) (a' := ?_) #[true, false, true, false, true, false, false, true, false, false, false, true, false, true, true, false, true, false, false, false, false, false, true, false, false, false, false, false, false] rfl rfl (any_of HT_.out (by kernel_rfl)) (fun _ _ _ h => h) (Or.inl ⟨by rfl, ?_⟩) ?_ ?_
      rotate_left
      ·intro w'
       go_simp
       with_reducible rfl
      rotate_left
      ·simp only [Act.put, List.setIfInBounds_toArray, List.set_cons_zero, List.set_cons_succ, i64_w, i32_w]
       rfl
      refine pure_ (i := 23) (N := some 106) (v := ?_) (a' := ?_) #[true, false, true, false, true, false, false, true, false, false, false, true, false, true, true, false, true, false, false, false, false, false, true, true, false, false, false, false, false] rfl rfl (any_of HT_.out (by kernel_rfl)) (fun _ _ _ h => h) (Or.inl ⟨by rfl, ?_⟩) ?_ ?_
      rotate_left
      ·intro w'
       go_simp
       with_reducible rfl
      rotate_left
      ·simp only [Act.put, List.setIfInBounds_toArray, List.set_cons_zero, List.set_cons_succ, i64_w, i32_w]
       rfl
      refine pure_ (i := 26) (N := some 109) (v := ?_) (a' := ?_) #[true, false, true, false, true, false, false, true, false, false, false, true, false, true, true, false, true, false, false, false, false, false, true, true, false, false, true, false, false] rfl rfl (any_of HT_.out (by kernel_rfl)) (fun _ _ _ h => h) (Or.inl ⟨by rfl, ?_⟩) ?_ ?_
      rotate_left
      ·intro w'
       go_simp
       with_reducible rfl
      rotate_left
      ·simp only [Act.put, List.setIfInBounds_toArray, List.set_cons_zero, List.set_cons_succ, i64_w, i32_w]
       rfl
      refine take_ (i := 1) (N := some 84) (v := ?_) (a' := ?_) #[true, true, true, false, true, false, false, true, false, false, false, true, false, true, true, false, true, false, false, false, false, false, true, true, false, false, true, false, false] rfl rfl (take_ofW HT_.out HW_.out (by kernel_rfl)) (fun _ _ _ h => h) (Or.inl ⟨by rfl, ?_⟩) hHeld ?_ ?_
      rotate_left
      ·rintro w' ⟨s0, s1, s2, s3⟩
       go_simp
       with_reducible rfl
      rotate_left
      ·simp only [Act.put, List.setIfInBounds_toArray, List.set_cons_zero, List.set_cons_succ, i64_w, i32_w]
       rfl
      refine take_ (i := 12) (N := some 95) (v := ?_) (a' := ?_) #[true, true, true, false, true, false, false, true, false, false, false, true, true, true, true, false, true, false, false, false, false, false, true, true, false, false, true, false, false] rfl rfl (take_ofW HT_.out HW_.out (by kernel_rfl)) (fun _ _ _ h => h) (Or.inl ⟨by rfl, ?_⟩) hHeld ?_ ?_
      rotate_left
      ·rintro w' ⟨s0, s1, s2, s3⟩
       go_simp
       with_reducible rfl
      rotate_left
      ·simp only [Act.put, List.setIfInBounds_toArray, List.set_cons_zero, List.set_cons_succ, i64_w, i32_w]
       rfl
      refine take_ (i := 15) (N := some 98) (v := ?_) (a' := ?_) #[true, true, true, false, true, false, false, true, false, false, false, true, true, true, true, true, true, false, false, false, false, false, true, true, false, false, true, false, false] rfl rfl (take_ofW HT_.out HW_.out (by kernel_rfl)) (fun _ _ _ h => h) (Or.inl ⟨by rfl, ?_⟩) hHeld ?_ ?_
      rotate_left
      ·rintro w' ⟨s0, s1, s2, s3⟩
       go_simp
       with_reducible rfl
      rotate_left
      ·simp only [Act.put, List.setIfInBounds_toArray, List.set_cons_zero, List.set_cons_succ, i64_w, i32_w]
       rfl
      refine take_ (i := 17) (N := some 100) (v := ?_) (a' := ?_) #[true, true, true, false, true, false, false, true, false, false, false, true, true, true, true, true, true, true, false, false, false, false, true, true, false, false, true, false, false] rfl rfl (take_ofW HT_.out HW_.out (by kernel_rfl)) (fun _ _ _ h => h) (Or.inl ⟨by rfl, ?_⟩) hHeld ?_ ?_
      rotate_left
      ·rintro w' ⟨s0, s1, s2, s3⟩
       go_simp
       with_reducible rfl
      rotate_left
      ·simp only [Act.put, List.setIfInBounds_toArray, List.set_cons_zero, List.set_cons_succ, i64_w, i32_w]
       rfl
      refine pure_ (i := 18) (N := some 101) (v := ?_) (a' := ?_) #[true, true, true, false, true, false, false, true, false, false, false, true, true, true, true, true, true, true, true, false, false, false, true, true, false, false, true, false, false] rfl rfl (any_of HT_.out (by kernel_rfl)) (fun _ _ _ h => h) (Or.inl ⟨by rfl, ?_⟩) ?_ ?_
      rotate_left
      ·intro w'
       go_simp
       with_reducible rfl
      rotate_left
      ·simp only [Act.put, List.setIfInBounds_toArray, List.set_cons_zero, List.set_cons_succ, i64_w, i32_w]
       rfl
      refine pure_ (i := 19) (N := some 102) (v := ?_) (a' := ?_) #[true, true, true, false, true, false, false, true, false, false, false, true, true, true, true, true, true, true, true, true, false, false, true, true, false, false, true, false, false] rfl rfl (any_of HT_.out (by kernel_rfl)) (fun _ _ _ h => h) (Or.inl ⟨by rfl, ?_⟩) ?_ ?_
      rotate_left
      ·intro w'
       go_simp
       with_reducible rfl
      rotate_left
      ·simp only [Act.put, List.setIfInBounds_toArray, List.set_cons_zero, List.set_cons_succ, i64_w, i32_w]
       rfl
      refine pure_ (i := 20) (N := some 103) (v := ?_) (a' := ?_) #[true, true, true, false, true, false, false, true, false, false, false, true, true, true, true, true, true, true, true, true, true, false, true, true, false, false, true, false, false] rfl rfl (any_of HT_.out (by kernel_rfl)) (fun _ _ _ h => h) (Or.inl ⟨by rfl, ?_⟩) ?_ ?_
      rotate_left
      ·intro w'
       go_simp
       with_reducible rfl
      rotate_left
      ·simp only [Act.put, List.setIfInBounds_toArray, List.set_cons_zero, List.set_cons_succ, i64_w, i32_w]
       rfl
      refine take_ (i := 24) (N := some 107) (v := ?_) (a' := ?_) #[true, true, true, false, true, false, false, true, false, false, false, true, true, true, true, true, true, true, true, true, true, false, true, true, true, false, true, false, false] rfl rfl (take_ofW HT_.out HW_.out (by kernel_rfl)) (fun _ _ _ h => h) (Or.inl ⟨by rfl, ?_⟩) hHeld ?_ ?_
      rotate_left
      ·rintro w' ⟨s0, s1, s2, s3⟩
       go_simp
       with_reducible rfl
      rotate_left
      ·simp only [Act.put, List.setIfInBounds_toArray, List.set_cons_zero, List.set_cons_succ, i64_w, i32_w]
       rfl
      refine one_ (i := 3) (N := some 86) #[true, true, true, true, true, false, false, true, false, false, false, true, true, true, true, true, true, true, true, true, true, false, true, true, true, false, true, false, false] rfl rfl (one_of HT_.out (by kernel_rfl)) (by decide) (fun K hK => ?_)
      refine goes_ Tryz.func79 (by kernel_rfl) rfl #[.int .u32 a4, .int .i64 6] (by rfl) rfl rfl (by simp only [List.map_toArray, List.map_cons, List.map_nil]; rfl) ?_
      with_reducible refine (turn_calls a4 6 (by decide) _).mono ?_
      rintro e x18_1 ⟨rfl, m3, hm3⟩
      refine ⟨_, rfl, ?_⟩
      have HM_x18_1 := Aside0.mk (show M2 w x18_1 bs br bk bw bv S W' [a0, a1, a2, a3, a4, a5, a6, a7] by rw [hm3]; exact HM_x18.out.drewN m3)
      have HC_x18_1 := Aside0.mk (show x18_1.cell? ⟨bk, i, none⟩ = some (.int .u32 kk) by rw [hm3]; exact HC_x18.out)
      clear hm3
      refine hK.out _ _ ⟨(HM_x18_1.out.v.cell 7 (by simp)), (HM_x18_1.out.v.cell 6 (by simp)), (HM_x18_1.out.v.cell 5 (by simp)), HC_x18_1.out⟩ (fun hHeld => ?_)
      clear hK K
      refine norm_ (a' := ?_) ?_ ?_
      rotate_left
      ·show Act.put _ (some 86) _ = _
       simp only [Act.put, List.setIfInBounds_toArray, List.set_cons_zero, List.set_cons_succ, i64_w, i32_w]
       rfl
      refine one_ (i := 5) (N := some 88) #[true, true, true, true, true, true, false, true, false, false, false, true, true, true, true, true, true, true, true, true, true, false, true, true, true, false, true, false, false] rfl rfl (one_of HT_.out (by kernel_rfl)) (by decide) (fun K hK => ?_)
      refine goes_ Tryz.func79 (by kernel_rfl) rfl #[.int .u32 a4, .int .i64 11] (by rfl) rfl rfl (by simp only [List.map_toArray, List.map_cons, List.map_nil]; rfl) ?_
      with_reducible refine (turn_calls a4 11 (by decide) _).mono ?_
      rintro e x18_2 ⟨rfl, m5, hm5⟩
      refine ⟨_, rfl, ?_⟩
      have HM_x18_2 := Aside0.mk (show M2 w x18_2 bs br bk bw bv S W' [a0, a1, a2, a3, a4, a5, a6, a7] by rw [hm5]; exact HM_x18_1.out.drewN m5)
      have HC_x18_2 := Aside0.mk (show x18_2.cell? ⟨bk, i, none⟩ = some (.int .u32 kk) by rw [hm5]; exact HC_x18_1.out)
      clear hm5
      refine hK.out _ _ ⟨(HM_x18_2.out.v.cell 7 (by simp)), (HM_x18_2.out.v.cell 6 (by simp)), (HM_x18_2.out.v.cell 5 (by simp)), HC_x18_2.out⟩ (fun hHeld => ?_)
      clear hK K
      refine norm_ (a' := ?_) ?_ ?_
      rotate_left
      ·show Act.put _ (some 88) _ = _
       simp only [Act.put, List.setIfInBounds_toArray, List.set_cons_zero, List.set_cons_succ, i64_w, i32_w]
       rfl
      refine pure_ (i := 6) (N := some 89) (v := ?_) (a' := ?_) #[true, true, true, true, true, true, true, true, false, false, false, true, true, true, true, true, true, true, true, true, true, false, true, true, true, false, true, false, false] rfl rfl (any_of HT_.out (by kernel_rfl)) (fun _ _ _ h => h) (Or.inl ⟨by rfl, ?_⟩) ?_ ?_
      rotate_left
      ·intro w'
       go_simp
       with_reducible rfl
      rotate_left
      ·simp only [Act.put, List.setIfInBounds_toArray, List.set_cons_zero, List.set_cons_succ, i64_w, i32_w]
       rfl
      refine one_ (i := 8) (N := some 91) #[true, true, true, true, true, true, true, true, true, false, false, true, true, true, true, true, true, true, true, true, true, false, true, true, true, false, true, false, false] rfl rfl (one_of HT_.out (by kernel_rfl)) (by decide) (fun K hK => ?_)
      refine goes_ Tryz.func79 (by kernel_rfl) rfl #[.int .u32 a4, .int .i64 25] (by rfl) rfl rfl (by simp only [List.map_toArray, List.map_cons, List.map_nil]; rfl) ?_
      with_reducible refine (turn_calls a4 25 (by decide) _).mono ?_
      rintro e x18_3 ⟨rfl, m8, hm8⟩
      refine ⟨_, rfl, ?_⟩
      have HM_x18_3 := Aside0.mk (show M2 w x18_3 bs br bk bw bv S W' [a0, a1, a2, a3, a4, a5, a6, a7] by rw [hm8]; exact HM_x18_2.out.drewN m8)
      have HC_x18_3 := Aside0.mk (show x18_3.cell? ⟨bk, i, none⟩ = some (.int .u32 kk) by rw [hm8]; exact HC_x18_2.out)
      clear hm8
      refine hK.out _ _ ⟨(HM_x18_3.out.v.cell 7 (by simp)), (HM_x18_3.out.v.cell 6 (by simp)), (HM_x18_3.out.v.cell 5 (by simp)), HC_x18_3.out⟩ (fun hHeld => ?_)
      clear hK K
      refine norm_ (a' := ?_) ?_ ?_
      rotate_left
      ·show Act.put _ (some 91) _ = _
       simp only [Act.put, List.setIfInBounds_toArray, List.set_cons_zero, List.set_cons_succ, i64_w, i32_w]
       rfl
      refine pure_ (i := 9) (N := some 92) (v := ?_) (a' := ?_) #[true, true, true, true, true, true, true, true, true, true, false, true, true, true, true, true, true, true, true, true, true, false, true, true, true, false, true, false, false] rfl rfl (any_of HT_.out (by kernel_rfl)) (fun _ _ _ h => h) (Or.inl ⟨by rfl, ?_⟩) ?_ ?_
      rotate_left
      ·intro w'
       go_simp
       with_reducible rfl
      rotate_left
      ·simp only [Act.put, List.setIfInBounds_toArray, List.set_cons_zero, List.set_cons_succ, i64_w, i32_w]
       rfl
      refine pure_ (i := 10) (N := some 93) (v := ?_) (a' := ?_) #[true, true, true, true, true, true, true, true, true, true, true, true, true, true, true, true, true, true, true, true, true, false, true, true, true, false, true, false, false] rfl rfl (any_of HT_.out (by kernel_rfl)) (fun _ _ _ h => h) (Or.inl ⟨by rfl, ?_⟩) ?_ ?_
      rotate_left
      ·intro w'
       go_simp
       with_reducible rfl
      rotate_left
      ·simp only [Act.put, List.setIfInBounds_toArray, List.set_cons_zero, List.set_cons_succ, i64_w, i32_w]
       rfl
      refine pure_ (i := 21) (N := some 104) (v := ?_) (a' := ?_) #[true, true, true, true, true, true, true, true, true, true, true, true, true, true, true, true, true, true, true, true, true, true, true, true, true, false, true, false, false] rfl rfl (any_of HT_.out (by kernel_rfl)) (fun _ _ _ h => h) (Or.inl ⟨by rfl, ?_⟩) ?_ ?_
      rotate_left
      ·intro w'
       go_simp
       with_reducible rfl
      rotate_left
      ·simp only [Act.put, List.setIfInBounds_toArray, List.set_cons_zero, List.set_cons_succ, i64_w, i32_w]
       rfl
      refine pure_ (i := 25) (N := some 108) (v := ?_) (a' := ?_) #[true, true, true, true, true, true, true, true, true, true, true, true, true, true, true, true, true, true, true, true, true, true, true, true, true, true, true, false, false] rfl rfl (any_of HT_.out (by kernel_rfl)) (fun _ _ _ h => h) (Or.inl ⟨by rfl, ?_⟩) ?_ ?_
      rotate_left
      ·intro w'
       go_simp
       with_reducible rfl
      rotate_left
      ·simp only [Act.put, List.setIfInBounds_toArray, List.set_cons_zero, List.set_cons_succ, i64_w, i32_w]
       rfl
      refine pure_ (i := 27) (N := some 110) (v := ?_) (a' := ?_) #[true, true, true, true, true, true, true, true, true, true, true, true, true, true, true, true, true, true, true, true, true, true, true, true, true, true, true, true, false] rfl rfl (any_of HT_.out (by kernel_rfl)) (fun _ _ _ h => h) (Or.inl ⟨by rfl, ?_⟩) ?_ ?_
      rotate_left
      ·intro w'
       go_simp
       with_reducible rfl
      rotate_left
      ·simp only [Act.put, List.setIfInBounds_toArray, List.set_cons_zero, List.set_cons_succ, i64_w, i32_w]
       rfl
      refine pure_ (i := 28) (N := some 15) (v := ?_) (a' := ?_) #[true, true, true, true, true, true, true, true, true, true, true, true, true, true, true, true, true, true, true, true, true, true, true, true, true, true, true, true, true] rfl rfl (any_of HT_.out (by kernel_rfl)) (fun _ _ _ h => h) (Or.inl ⟨by rfl, ?_⟩) ?_ ?_
      rotate_left
      ·intro w'
       go_simp
       with_reducible rfl
      rotate_left
      ·simp only [Act.put, List.setIfInBounds_toArray, List.set_cons_zero, List.set_cons_succ, i64_w, i32_w]
       rfl
      refine done_ (done_of HT_.out (by kernel_rfl)) ?_

      try go_wp2
      have HM_x19 := Aside0.mk HM_x18_3.out.drew
      refine start_ (n := 22) (S := fun w' => w'.cell? ⟨bv, 1, none⟩ = some (.int .u32 a1) ∧ w'.cell? ⟨bv, 2, none⟩ = some (.int .u32 a2)) (ds := []) #[false, false, false, false, false, false, false, false, false, false, false, false, false, false, false, false, false, false, false, false, false, false] (by kernel_rfl) rfl rfl ⟨(HM_x19.out.v.cell 1 (by simp)), (HM_x19.out.v.cell 2 (by simp))⟩ (fun hHeld => ?_)
      refine with_tabW S_mix.tab19 S_mix.bits19 (fun HT_ HW_ => ?_)
      generalize x18_3.drew = x19 at HM_x19 hHeld ⊢
      refine pure_ (i := 0) (N := some 111) (v := ?_) (a' := ?_) #[true, false, false, false, false, false, false, false, false, false, false, false, false, false, false, false, false, false, false, false, false, false] rfl rfl (any_of HT_.out (by kernel_rfl)) (fun _ _ _ h => h) (Or.inl ⟨by rfl, ?_⟩) ?_ ?_
      rotate_left
      ·intro w'
       go_simp
       with_reducible rfl
      rotate_left
      ·simp only [Act.put, List.setIfInBounds_toArray, List.set_cons_zero, List.set_cons_succ, i64_w, i32_w]
       rfl
      refine pure_ (i := 2) (N := some 113) (v := ?_) (a' := ?_) #[true, false, true, false, false, false, false, false, false, false, false, false, false, false, false, false, false, false, false, false, false, false] rfl rfl (any_of HT_.out (by kernel_rfl)) (fun _ _ _ h => h) (Or.inl ⟨by rfl, ?_⟩) ?_ ?_
      rotate_left
      ·intro w'
       go_simp
       with_reducible rfl
      rotate_left
      ·simp only [Act.put, List.setIfInBounds_toArray, List.set_cons_zero, List.set_cons_succ, i64_w, i32_w]
       rfl
      refine pure_ (i := 5) (N := some 116) (v := ?_) (a' := ?_) #[true, false, true, false, false, true, false, false, false, false, false, false, false, false, false, false, false, false, false, false, false, false] rfl rfl (any_of HT_.out (by kernel_rfl)) (fun _ _ _ h => h) (Or.inl ⟨by rfl, ?_⟩) ?_ ?_
      rotate_left
      ·intro w'
       go_simp
       with_reducible rfl
      rotate_left
      ·simp only [Act.put, List.setIfInBounds_toArray, List.set_cons_zero, List.set_cons_succ, i64_w, i32_w]
       rfl
      refine pure_ (i := 8) (N := some 119) (v := ?_) (a' := ?_) #[true, false, true, false, false, true, false, false, true, false, false, false, false, false, false, false, false, false, false, false, false, false] rfl rfl (any_of HT_.out (by kernel_rfl)) (fun _ _ _ h => h) (Or.inl ⟨by rfl, ?_⟩) ?_ ?_
      rotate_left
      ·intro w'
       go_simp
       with_reducible rfl
      rotate_left
      ·simp only [Act.put, List.setIfInBounds_toArray, List.set_cons_zero, List.set_cons_succ, i64_w, i32_w]
       rfl
      refine pure_ (i := 9) (N := some 120) (v := ?_) (a' := ?_) #[true, false, true, false, false, true, false, false, true, true, false, false, false, false, false, false, false, false, false, false, false, false] rfl rfl (any_of HT_.out (by kernel_rfl)) (fun _ _ _ h => h) (Or.inl ⟨by rfl, ?_⟩) ?_ ?_
      rotate_left
      ·intro w'
       go_simp
       with_reducible rfl
      rotate_left
      ·simp only [Act.put, List.setIfInBounds_toArray, List.set_cons_zero, List.set_cons_succ, i64_w, i32_w]
       rfl
      refine pure_ (i := 12) (N := some 123) (v := ?_) (a' := ?_) #[true, false, true, false, false, true, false, false, true, true, false, false, true, false, false, false, false, false, false, false, false, false] rfl rfl (any_of HT_.out (by kernel_rfl)) (fun _ _ _ h => h) (Or.inl ⟨by rfl, ?_⟩) ?_ ?_
      rotate_left
      ·intro w'
       go_simp
       with_reducible rfl
      rotate_left
      ·simp only [Act.put, List.setIfInBounds_toArray, List.set_cons_zero, List.set_cons_succ, i64_w, i32_w]
       rfl
      refine pure_ (i := 14) (N := some 125) (v := ?_) (a' := ?_) #[true, false, true, false, false, true, false, false, true, true, false, false, true, false, true, false, false, false, false, false, false, false] rfl rfl (any_of HT_.out (by kernel_rfl)) (fun _ _ _ h => h) (Or.inl ⟨by rfl, ?_⟩) ?_ ?_
      rotate_left
      ·intro w'
       go_simp
       with_reducible rfl
      rotate_left
      ·simp only [Act.put, List.setIfInBounds_toArray, List.set_cons_zero, List.set_cons_succ, i64_w, i32_w]
       rfl
      refine pure_ (i := 15) (N := some 126) (v := ?_) (a' := ?_) #[true, false, true, false, false, true, false, false, true, true, false, false, true, false, true, true, false, false, false, false, false, false] rfl rfl (any_of HT_.out (by kernel_rfl)) (fun _ _ _ h => h) (Or.inl ⟨by rfl, ?_⟩) ?_ ?_
      rotate_left
      ·intro w'
       go_simp
       with_reducible rfl
      rotate_left
      ·simp only [Act.put, List.setIfInBounds_toArray, List.set_cons_zero, List.set_cons_succ, i64_w, i32_w]
       rfl
      refine take_ (i := 10) (N := some 121) (v := ?_) (a' := ?_) #[true, false, true, false, false, true, false, false, true, true, true, false, true, false, true, true, false, false, false, false, false, false] rfl rfl (take_ofW HT_.out HW_.out (by kernel_rfl)) (fun _ _ _ h => h) (Or.inl ⟨by rfl, ?_⟩) hHeld ?_ ?_
      rotate_left
      ·rintro w' ⟨s0, s1⟩
       go_simp
       with_reducible rfl
      rotate_left
      ·simp only [Act.put, List.setIfInBounds_toArray, List.set_cons_zero, List.set_cons_succ, i64_w, i32_w]
       rfl
      refine pure_ (i := 11) (N := some 122) (v := ?_) (a' := ?_) #[true, false, true, false, false, true, false, false, true, true, true, true, true, false, true, true, false, false, false, false, false, false] rfl rfl (any_of HT_.out (by kernel_rfl)) (fun _ _ _ h => h) (Or.inl ⟨by rfl, ?_⟩) ?_ ?_
      rotate_left
      ·intro w'
       go_simp
       with_reducible rfl
      rotate_left
      ·simp only [Act.put, List.setIfInBounds_toArray, List.set_cons_zero, List.set_cons_succ, i64_w, i32_w]
       rfl
      refine take_ (i := 13) (N := some 124) (v := ?_) (a' := ?_) #[true, false, true, false, false, true, false, false, true, true, true, true, true, true, true, true, false, false, false, false, false, false] rfl rfl (take_ofW HT_.out HW_.out (by kernel_rfl)) (fun _ _ _ h => h) (Or.inl ⟨by rfl, ?_⟩) hHeld ?_ ?_
      rotate_left
      ·rintro w' ⟨s0, s1⟩
       go_simp
       with_reducible rfl
      rotate_left
      ·simp only [Act.put, List.setIfInBounds_toArray, List.set_cons_zero, List.set_cons_succ, i64_w, i32_w]
       rfl
      refine take_ (i := 16) (N := some 127) (v := ?_) (a' := ?_) #[true, false, true, false, false, true, false, false, true, true, true, true, true, true, true, true, true, false, false, false, false, false] rfl rfl (take_ofW HT_.out HW_.out (by kernel_rfl)) (fun _ _ _ h => h) (Or.inl ⟨by rfl, ?_⟩) hHeld ?_ ?_
      rotate_left
      ·rintro w' ⟨s0, s1⟩
       go_simp
       with_reducible rfl
      rotate_left
      ·simp only [Act.put, List.setIfInBounds_toArray, List.set_cons_zero, List.set_cons_succ, i64_w, i32_w]
       rfl
      refine pure_ (i := 17) (N := some 128) (v := ?_) (a' := ?_) #[true, false, true, false, false, true, false, false, true, true, true, true, true, true, true, true, true, true, false, false, false, false] rfl rfl (any_of HT_.out (by kernel_rfl)) (fun _ _ _ h => h) (Or.inl ⟨by rfl, ?_⟩) ?_ ?_
      rotate_left
      ·intro w'
       go_simp
       with_reducible rfl
      rotate_left
      ·simp only [Act.put, List.setIfInBounds_toArray, List.set_cons_zero, List.set_cons_succ, i64_w, i32_w]
       rfl
      refine pure_ (i := 18) (N := some 129) (v := ?_) (a' := ?_) #[true, false, true, false, false, true, false, false, true, true, true, true, true, true, true, true, true, true, true, false, false, false] rfl rfl (any_of HT_.out (by kernel_rfl)) (fun _ _ _ h => h) (Or.inl ⟨by rfl, ?_⟩) ?_ ?_
      rotate_left
      ·intro w'
       go_simp
       with_reducible rfl
      rotate_left
      ·simp only [Act.put, List.setIfInBounds_toArray, List.set_cons_zero, List.set_cons_succ, i64_w, i32_w]
       rfl
      refine pure_ (i := 19) (N := some 130) (v := ?_) (a' := ?_) #[true, false, true, false, false, true, false, false, true, true, true, true, true, true, true, true, true, true, true, true, false, false] rfl rfl (any_of HT_.out (by kernel_rfl)) (fun _ _ _ h => h) (Or.inl ⟨by rfl, ?_⟩) ?_ ?_
      rotate_left
      ·intro w'
       go_simp
       with_reducible rfl
      rotate_left
      ·simp only [Act.put, List.setIfInBounds_toArray, List.set_cons_zero, List.set_cons_succ, i64_w, i32_w]
       rfl
      refine one_ (i := 1) (N := some 112) #[true, true, true, false, false, true, false, false, true, true, true, true, true, true, true, true, true, true, true, true, false, false] rfl rfl (one_of HT_.out (by kernel_rfl)) (by decide) (fun K hK => ?_)
      refine goes_ Tryz.func79 (by kernel_rfl) rfl #[.int .u32 a0, .int .i64 2] (by rfl) rfl rfl (by simp only [List.map_toArray, List.map_cons, List.map_nil]; rfl) ?_
      with_reducible refine (turn_calls a0 2 (by decide) _).mono ?_
      rintro e x19_1 ⟨rfl, m1, hm1⟩
      refine ⟨_, rfl, ?_⟩
      have HM_x19_1 := Aside0.mk (show M2 w x19_1 bs br bk bw bv S W' [a0, a1, a2, a3, a4, a5, a6, a7] by rw [hm1]; exact HM_x19.out.drewN m1)
      clear hm1
      refine hK.out _ _ ⟨(HM_x19_1.out.v.cell 1 (by simp)), (HM_x19_1.out.v.cell 2 (by simp))⟩ (fun hHeld => ?_)
      clear hK K
      refine norm_ (a' := ?_) ?_ ?_
      rotate_left
      ·show Act.put _ (some 112) _ = _
       simp only [Act.put, List.setIfInBounds_toArray, List.set_cons_zero, List.set_cons_succ, i64_w, i32_w]
       rfl
      refine one_ (i := 3) (N := some 114) #[true, true, true, true, false, true, false, false, true, true, true, true, true, true, true, true, true, true, true, true, false, false] rfl rfl (one_of HT_.out (by kernel_rfl)) (by decide) (fun K hK => ?_)
      refine goes_ Tryz.func79 (by kernel_rfl) rfl #[.int .u32 a0, .int .i64 13] (by rfl) rfl rfl (by simp only [List.map_toArray, List.map_cons, List.map_nil]; rfl) ?_
      with_reducible refine (turn_calls a0 13 (by decide) _).mono ?_
      rintro e x19_2 ⟨rfl, m3, hm3⟩
      refine ⟨_, rfl, ?_⟩
      have HM_x19_2 := Aside0.mk (show M2 w x19_2 bs br bk bw bv S W' [a0, a1, a2, a3, a4, a5, a6, a7] by rw [hm3]; exact HM_x19_1.out.drewN m3)
      clear hm3
      refine hK.out _ _ ⟨(HM_x19_2.out.v.cell 1 (by simp)), (HM_x19_2.out.v.cell 2 (by simp))⟩ (fun hHeld => ?_)
      clear hK K
      refine norm_ (a' := ?_) ?_ ?_
      rotate_left
      ·show Act.put _ (some 114) _ = _
       simp only [Act.put, List.setIfInBounds_toArray, List.set_cons_zero, List.set_cons_succ, i64_w, i32_w]
       rfl
      refine pure_ (i := 4) (N := some 115) (v := ?_) (a' := ?_) #[true, true, true, true, true, true, false, false, true, true, true, true, true, true, true, true, true, true, true, true, false, false] rfl rfl (any_of HT_.out (by kernel_rfl)) (fun _ _ _ h => h) (Or.inl ⟨by rfl, ?_⟩) ?_ ?_
      rotate_left
      ·intro w'
       go_simp
       with_reducible rfl
      rotate_left
      ·simp only [Act.put, List.setIfInBounds_toArray, List.set_cons_zero, List.set_cons_succ, i64_w, i32_w]
       rfl
      refine one_ (i := 6) (N := some 117) #[true, true, true, true, true, true, true, false, true, true, true, true, true, true, true, true, true, true, true, true, false, false] rfl rfl (one_of HT_.out (by kernel_rfl)) (by decide) (fun K hK => ?_)
      refine goes_ Tryz.func79 (by kernel_rfl) rfl #[.int .u32 a0, .int .i64 22] (by rfl) rfl rfl (by simp only [List.map_toArray, List.map_cons, List.map_nil]; rfl) ?_
      with_reducible refine (turn_calls a0 22 (by decide) _).mono ?_
      rintro e x19_3 ⟨rfl, m6, hm6⟩
      refine ⟨_, rfl, ?_⟩
      have HM_x19_3 := Aside0.mk (show M2 w x19_3 bs br bk bw bv S W' [a0, a1, a2, a3, a4, a5, a6, a7] by rw [hm6]; exact HM_x19_2.out.drewN m6)
      clear hm6
      refine hK.out _ _ ⟨(HM_x19_3.out.v.cell 1 (by simp)), (HM_x19_3.out.v.cell 2 (by simp))⟩ (fun hHeld => ?_)
      clear hK K
      refine norm_ (a' := ?_) ?_ ?_
      rotate_left
      ·show Act.put _ (some 117) _ = _
       simp only [Act.put, List.setIfInBounds_toArray, List.set_cons_zero, List.set_cons_succ, i64_w, i32_w]
       rfl
      refine pure_ (i := 7) (N := some 118) (v := ?_) (a' := ?_) #[true, true, true, true, true, true, true, true, true, true, true, true, true, true, true, true, true, true, true, true, false, false] rfl rfl (any_of HT_.out (by kernel_rfl)) (fun _ _ _ h => h) (Or.inl ⟨by rfl, ?_⟩) ?_ ?_
      rotate_left
      ·intro w'
       go_simp
       with_reducible rfl
      rotate_left
      ·simp only [Act.put, List.setIfInBounds_toArray, List.set_cons_zero, List.set_cons_succ, i64_w, i32_w]
       rfl
      refine pure_ (i := 20) (N := some 131) (v := ?_) (a' := ?_) #[true, true, true, true, true, true, true, true, true, true, true, true, true, true, true, true, true, true, true, true, true, false] rfl rfl (any_of HT_.out (by kernel_rfl)) (fun _ _ _ h => h) (Or.inl ⟨by rfl, ?_⟩) ?_ ?_
      rotate_left
      ·intro w'
       go_simp
       with_reducible rfl
      rotate_left
      ·simp only [Act.put, List.setIfInBounds_toArray, List.set_cons_zero, List.set_cons_succ, i64_w, i32_w]
       rfl
      refine pure_ (i := 21) (N := some 16) (v := ?_) (a' := ?_) #[true, true, true, true, true, true, true, true, true, true, true, true, true, true, true, true, true, true, true, true, true, true] rfl rfl (any_of HT_.out (by kernel_rfl)) (fun _ _ _ h => h) (Or.inl ⟨by rfl, ?_⟩) ?_ ?_
      rotate_left
      ·intro w'
       go_simp
       with_reducible rfl
      rotate_left
      ·simp only [Act.put, List.setIfInBounds_toArray, List.set_cons_zero, List.set_cons_succ, i64_w, i32_w]
       rfl
      refine done_ (done_of HT_.out (by kernel_rfl)) ?_

      try go_wp2
      have HM_x20 := Aside0.mk HM_x19_3.out.drew
      go_region_law (refine step_copy_splice rfl (.tmp 132) (.tmp 133) 178 178 rfl 37 Tryz.underlying178 (by kernel_rfl) (some ⟨bv, 1, none⟩) (some ⟨bv, 0, none⟩) 7 7 7 8 rfl rfl bv 1 (List.map (Value.int .u32) [a0, a1, a2, a3, a4, a5, a6, a7]) 163 HM_x20.out.v (List.map (Value.int .u32) ([a0, a1, a2, a3, a4, a5, a6, a7].take 7)) rfl (fun _ => ⟨rfl, _, rfl, row_cells HM_x20.out.v⟩) (by simp) (by intro v hv; simp at hv; rcases hv with rfl | rfl | rfl | rfl | rfl | rfl | rfl <;> rfl) bv _ (Below.refl _ _) (Nat.le_refl _) ?_; intro w20 hg hb)
      have HM20 : Aside0 (M2 w w20 bs br bk bw bv S W' [a0, a0, a1, a2, a3, a4, a5, a6]) := ⟨HM_x20.out.frB hb hg.out⟩
      clear hg hb
      have hc4 := HM20.out.v.cell 4 (by simp)
      have hf4 := HM20.out.v.frozen 4
      have hc0 := HM20.out.v.cell 0 (by simp)
      have hf0 := HM20.out.v.frozen 0
      go_wp2
      go_roundg (gk - 1)
      case measure => have := HK.out; have := HVW.out; omega
      case rel =>
       refine ⟨i + 1, ?_, ⟨by have := HK.out; have := HVW.out; omega⟩, ⟨?_⟩⟩
       ·have := HVW.out
        rw [show wrap64 ((i : Int) + 1) = ((i + 1 : Nat) : Int) by unfold wrap64; omega]
       ·have e1 : (mixR S l (i + 1)).2 = W' := by simp only [mixR]; rw [HVW.out.2.2.2.1]; exact HXW.out.2
        have e2 : (mixR S l (i + 1)).1 = roundV i x [a0, a1, a2, a3, a4, a5, a6, a7] := by simp only [mixR]; rw [HVW.out.2.2.2.1, HVW.out.2.2.1, HXW.out.1]
        rw [e1, e2]
        have hfin := (HM20.out.setV 4 (IntKind.u32.wrap (a3 + tV i x [a0, a1, a2, a3, a4, a5, a6, a7]))).setV 0 (IntKind.u32.wrap (tV i x [a0, a1, a2, a3, a4, a5, a6, a7] + uV [a0, a1, a2, a3, a4, a5, a6, a7]))
        have hk := HKK.out
        have hu : uV [a0, a1, a2, a3, a4, a5, a6, a7] = IntKind.u32.wrap (Go.bits .xor .u32 (Go.bits .xor .u32 (turnV a0 2) (turnV a0 13)) (turnV a0 22) + Go.bits .or .u32 (Go.bits .and .u32 a0 a1) (Go.bits .and .u32 a2 (Go.bits .or .u32 a0 a1))) := rfl
        have ht : tV i x [a0, a1, a2, a3, a4, a5, a6, a7] = IntKind.u32.wrap (IntKind.u32.wrap (IntKind.u32.wrap (IntKind.u32.wrap (a7 + Go.bits .xor .u32 (Go.bits .xor .u32 (turnV a4 6) (turnV a4 11)) (turnV a4 25)) + Go.bits .xor .u32 a6 (Go.bits .and .u32 a4 (Go.bits .xor .u32 a5 a6))) + kk) + x) := by rw [← hk]; rfl
        have hr : roundV i x [a0, a1, a2, a3, a4, a5, a6, a7] = ([a0, a0, a1, a2, a3, a4, a5, a6].set 4 (IntKind.u32.wrap (a3 + tV i x [a0, a1, a2, a3, a4, a5, a6, a7]))).set 0 (IntKind.u32.wrap (tV i x [a0, a1, a2, a3, a4, a5, a6, a7] + uV [a0, a1, a2, a3, a4, a5, a6, a7])) := rfl
        rw [hr]
        rw [ht, hu] at hfin ⊢
        simp only [IntKind.wrap_u32, Int.emod_add_emod, Int.add_emod_emod] at hfin ⊢
        exact hfin
    ·have hi : i = 64 := by have := HK.out; omega
     have c1b : decide ((i : Int) < 64) = false := decide_eq_false c1
     clear c1
     subst hi
     obtain ⟨V, hV⟩ : ∃ V, (mixR S l 64).1 = V := ⟨_, rfl⟩
     obtain ⟨W, hW⟩ : ∃ W, (mixR S l 64).2 = W := ⟨_, rfl⟩
     have hVl := (mixR_len S l HL.out.1 64).1
     rw [hV] at hVl
     rw [hV, hW] at HM1
     have HVV := Aside0.mk (show V.length = 8 ∧ (mixR S l 64).1 = V from ⟨hVl, hV⟩)
     clear hV hW hVl HK
     go_wp2
     go_loopg [145] 9 (fun kq v145 w' => ∃ i : Nat, v145 = .int .i64 (i : Int) ∧ Aside0 (kq = 9 - i ∧ i ≤ 8) ∧ Aside0 (M2 w w' bs br bk bw bv S W (addS S V i)))
     case atStart => exact ⟨0, by first | rfl | simp, ⟨by omega⟩, HM1⟩
     case round =>
      obtain ⟨i, rfl, HK, HM3⟩ := hrel
      clear HM1
      by_cases c1 : (i : Int) < 8
      ·have c1b : decide ((i : Int) < 8) = true := decide_eq_true c1
       have hix := eq_true c1
       have hi0 := eq_true (show (0 : Int) ≤ (i : Int) by omega)
       have HI8 : Aside0 (i < 8) := ⟨by omega⟩
       clear c1
       obtain ⟨p, hp⟩ : ∃ p, (addS S V i).getD i 0 = p := ⟨_, rfl⟩
       obtain ⟨q, hq⟩ : ∃ q, S.getD i 0 = q := ⟨_, rfl⟩
       have HPQ := Aside0.mk (show (addS S V i).getD i 0 = p ∧ S.getD i 0 = q from ⟨hp, hq⟩)
       clear hp hq
       try go_wp2
       have HM4 := Aside0.mk HM3.out.drew
       have HCV : Aside0 (wr.drew.cell? ⟨bv, i, none⟩ = some (.int .u32 p)) := ⟨by have := HM4.out.v.cell i (by rw [addS_len S V HVV.out.1]; exact HI8.out); rw [HPQ.out.1] at this; exact this⟩
       have HCS : Aside0 (wr.drew.cell? ⟨bs, i, none⟩ = some (.int .u32 q)) := ⟨by have := HM4.out.m.s.cell i (by rw [HL.out.1]; exact HI8.out); rw [HPQ.out.2] at this; exact this⟩
       refine start_ (n := 9) (S := fun w' => w'.cell? ⟨bv, i, none⟩ = some (.int .u32 p) ∧ w'.cell? ⟨bs, i, none⟩ = some (.int .u32 q)) (ds := [8]) #[false, false, false, false, false, false, false, false, false] (by kernel_rfl) rfl rfl ⟨HCV.out, HCS.out⟩ (fun hHeld => ?_)
       refine with_tabW S_mix.tab27 S_mix.bits27 (fun HT_ HW_ => ?_)
       generalize wr.drew = x27 at HM4 HCV HCS hHeld ⊢
       refine pure_ (i := 0) (N := some 148) (v := ?_) (a' := ?_) #[true, false, false, false, false, false, false, false, false] rfl rfl (any_of HT_.out (by kernel_rfl)) (fun _ _ _ h => h) (Or.inl ⟨by rfl, ?_⟩) ?_ ?_
       rotate_left
       ·intro w'
        go_simp
        with_reducible rfl
       rotate_left
       ·simp only [Act.put, List.setIfInBounds_toArray, List.set_cons_zero, List.set_cons_succ, i64_w, i32_w]
        rfl
       refine pure_ (i := 1) (N := some 149) (v := ?_) (a' := ?_) #[true, true, false, false, false, false, false, false, false] rfl rfl (any_of HT_.out (by kernel_rfl)) (fun _ _ _ h => h) (Or.inl ⟨by rfl, ?_⟩) ?_ ?_
       rotate_left
       ·intro w'
        go_simp
        with_reducible rfl
       rotate_left
       ·simp only [Act.put, List.setIfInBounds_toArray, List.set_cons_zero, List.set_cons_succ, i64_w, i32_w]
        rfl
       refine pure_ (i := 3) (N := some 151) (v := ?_) (a' := ?_) #[true, true, false, true, false, false, false, false, false] rfl rfl (any_of HT_.out (by kernel_rfl)) (fun _ _ _ h => h) (Or.inl ⟨by rfl, ?_⟩) ?_ ?_
       rotate_left
       ·intro w'
        go_simp
        with_reducible rfl
       rotate_left
       ·simp only [Act.put, List.setIfInBounds_toArray, List.set_cons_zero, List.set_cons_succ, i64_w, i32_w]
        rfl
       refine pure_ (i := 4) (N := some 152) (v := ?_) (a' := ?_) #[true, true, false, true, true, false, false, false, false] rfl rfl (any_of HT_.out (by kernel_rfl)) (fun _ _ _ h => h) (Or.inl ⟨by rfl, ?_⟩) ?_ ?_
       rotate_left
       ·intro w'
        go_simp
        with_reducible rfl
       rotate_left
       ·simp only [Act.put, List.setIfInBounds_toArray, List.set_cons_zero, List.set_cons_succ, i64_w, i32_w]
        rfl
       refine take_ (i := 2) (N := some 150) (v := ?_) (a' := ?_) #[true, true, true, true, true, false, false, false, false] rfl rfl (take_ofW HT_.out HW_.out (by kernel_rfl)) (fun _ _ _ h => h) (Or.inl ⟨by rfl, ?_⟩) hHeld ?_ ?_
       rotate_left
       ·rintro w' ⟨s0, s1⟩
        go_simp
        with_reducible rfl
       rotate_left
       ·simp only [Act.put, List.setIfInBounds_toArray, List.set_cons_zero, List.set_cons_succ, i64_w, i32_w]
        rfl
       refine take_ (i := 5) (N := some 153) (v := ?_) (a' := ?_) #[true, true, true, true, true, true, false, false, false] rfl rfl (take_ofW HT_.out HW_.out (by kernel_rfl)) (fun _ _ _ h => h) (Or.inl ⟨by rfl, ?_⟩) hHeld ?_ ?_
       rotate_left
       ·rintro w' ⟨s0, s1⟩
        go_simp
        with_reducible rfl
       rotate_left
       ·simp only [Act.put, List.setIfInBounds_toArray, List.set_cons_zero, List.set_cons_succ, i64_w, i32_w]
        rfl
       refine pure_ (i := 6) (N := some 154) (v := ?_) (a' := ?_) #[true, true, true, true, true, true, true, false, false] rfl rfl (any_of HT_.out (by kernel_rfl)) (fun _ _ _ h => h) (Or.inl ⟨by rfl, ?_⟩) ?_ ?_
       rotate_left
       ·intro w'
        go_simp
        with_reducible rfl
       rotate_left
       ·simp only [Act.put, List.setIfInBounds_toArray, List.set_cons_zero, List.set_cons_succ, i64_w, i32_w]
        rfl
       refine pure_ (i := 7) (N := some 155) (v := ?_) (a' := ?_) #[true, true, true, true, true, true, true, true, false] rfl rfl (any_of HT_.out (by kernel_rfl)) (fun _ _ _ h => h) (Or.inl ⟨by rfl, ?_⟩) ?_ ?_
       rotate_left
       ·intro w'
        go_simp
        with_reducible rfl
       rotate_left
       ·simp only [Act.put, List.setIfInBounds_toArray, List.set_cons_zero, List.set_cons_succ, i64_w, i32_w]
        rfl
       refine last_ (i := 8) (N := none) #[true, true, true, true, true, true, true, true, true] rfl rfl (one_of HT_.out (by kernel_rfl)) (by decide) (fun K hK => ?_)
       have hcs := HCV.out
       have hfs := HM4.out.v.frozen i
       refine skip_ (w1 := World.setCell x27 ⟨bv, i, none⟩ (.int .u32 (IntKind.u32.wrap (p + q)))) (by rfl) rfl ?_ ?_
       ·go_simp
       refine hK.out _ _ ?_
       clear hK K
       refine done_ (done_of HT_.out (by kernel_rfl)) ?_

       go_wp2
       go_roundg (gk - 1)
       case measure => have := HK.out; have := HI8.out; omega
       case rel =>
        refine ⟨i + 1, ?_, ⟨by have := HK.out; have := HI8.out; omega⟩, ⟨?_⟩⟩
        ·first
         | rfl
         | (have := HI8.out; rw [show wrap64 ((i : Int) + 1) = ((i + 1 : Nat) : Int) by unfold wrap64; omega])
         | simp
        ·have hfin := HM4.out.setV i (IntKind.u32.wrap (p + q))
         rw [addS, HPQ.out.1, HPQ.out.2]
         exact hfin
      ·have hi : i = 8 := by have := HK.out; omega
       have c1b : decide ((i : Int) < 8) = false := decide_eq_false c1
       clear c1
       subst hi
       have h8 : addS S V 8 = mixV S l := by unfold mixV; rw [HVV.out.2]
       rw [h8] at HM3
       have HS8 := Aside0.mk (mixV_len S l HL.out.1)
       clear h8
       go_wp2_with (first
        | ((with_reducible refine gate_dst (N := 157) rfl ?_); refine wpList_load_row rfl 163 (.tmp 8) rfl bv rfl 163 (u32s (mixV S l)) (0, 0) _ HM3.out.v Tryz.underlying163 rfl (by rw [u32s_size, HS8.out]; exact size163) ?_)
        | (refine store_row (t := 163) (e := 163) (g := br) (cells := u32s (mixV S l)) rfl rfl rfl rfl rfl HM3.out.m.r (by rw [u32s_size, HS8.out]; exact size163) (by rw [u32s_size, u32s_size, HS8.out]; rfl) (u32s_one _) ?_; intro wz hb hf; have HZ : Aside0 (ArrU wz br 163 (mixV S l)) := ⟨hb⟩; have HFZ := Aside0.mk hf; clear hb hf))
       refine bodyPost_ret (results_cell_row rfl _ _ br 163 (u32s (mixV S l)) (0, 0) _ rfl HZ.out Tryz.underlying163 rfl (by rw [u32s_size, HS8.out]; exact size163)) rfl ?_
       exact ⟨rfl, HM3.out.m.bel.trans (HFZ.out.belowB HM3.out.m.bel.size (fun k hk => by have := HM3.out.m.o; omega))⟩
end Go.Proofs.YteadamkkbgnpeaaGreat.S
end OfS3
section OfB2
set_option linter.unusedVariables false
set_option linter.unusedSimpArgs false
namespace Go.Proofs.YteadamkkbgnpeaaGreat.B
open Go.RowKit YteadamkkbgnpeaaGreatW.PrintWords
theorem splice_cons {α : Type} (cur : List α) (o : Nat) (v : α) (r : List α) (h : o < cur.length) : splice (cur.set o v) (o + 1) r = splice cur o (v :: r) := by
 unfold splice
 rw [List.take_set, List.drop_set_of_lt (by omega)]
 rw [show o + (v :: r).length = o + 1 + r.length by simp; omega]
 have : (cur.take (o + 1)).set o v = cur.take o ++ [v] := by
  rw [List.take_succ_eq_append_getElem h, List.set_append_right _ _ (by rw [List.length_take]; omega)]
  congr 1
  rw [List.length_take, show o - min o cur.length = 0 by omega]
  rfl
 rw [this]
 simp
theorem setCells_heap (g : Nat) (t : Nat) : ∀ (vs : List Value) (o : Nat) (cur : List Value) (w : World), w.heap[g]? = some (.cells cur.toArray t (0, 0)) → o + vs.length ≤ cur.length → (w.setCells g o vs).heap[g]? = some (.cells (splice cur o vs).toArray t (0, 0))
 | [], o, cur, w, h, _ => by simpa [World.setCells, splice] using h
 | v :: r, o, cur, w, h, hl => by
  rw [List.length_cons] at hl
  rw [World.setCells, ← splice_cons cur o v r (by omega)]
  refine setCells_heap g t r (o + 1) (cur.set o v) _ ?_ (by rw [List.length_set]; omega)
  have := blk_set h o v
  simpa using this
theorem setCells_fr (g : Nat) : ∀ (vs : List Value) (o : Nat) (w : World), Fr w (w.setCells g o vs) (fun k => k = g)
 | [], _, w => Fr.refl w _
 | v :: r, o, w => ((Fr.refl w (fun k => k = g)).setCell (p := ⟨g, o, none⟩) (.inl rfl) v).trans (setCells_fr g r (o + 1) _) (fun _ e => .inl e)
theorem there_of (w : World) (g t : Nat) (cur : List Value) (h : w.heap[g]? = some (.cells cur.toArray t (0, 0))) (o n : Nat) (hl : o + n ≤ cur.length) : w.there g o n := fun j hj =>
 ⟨by rw [blk_cell h (o + j)]; simp; omega, blk_frozen h (o + j)⟩
section
variable {P : Program} {ops : Array Oper} {rest : List Oper} {o : Oper} {a : Act} {Q : Exit → Act → World → Prop} {W : World} {K : Act → World → Prop} {E : Prop}
theorem store_part_wp {t e : TypeId} {x y : Operand} {g off : Nat} {cur : List Value} {cells : Array Value} (hd : o.dst = none) (ho : o.op = .store t x y) (hx : a.eval x = .pointer (some ⟨g, off, none⟩)) (hy : a.eval y = .agg cells)
  (hg : W.heap[g]? = some (.cells cur.toArray e (0, 0))) (hi : (P.info? t).map (·.size) = some cells.size) (hs : off + cells.size ≤ cur.length) (h1 : cells.all (·.oneCell') = true)
  (h : ∀ w1, w1.heap[g]? = some (.cells (splice cur off cells.toList).toArray e (0, 0)) → Fr W w1 (fun k => k = g) → K a w1) : o.wp P a W K Q := by
 refine wp_store_mid t x y ho g off cells hx hy (there_of W g e cur hg off cells.size hs) hi h1 ?_
 rw [hd]
 exact h _ (setCells_heap g e cells.toList off cur W hg (by simpa using hs)) (setCells_fr g cells.toList off W)
/-- A part of a block is stored, in a plain region. -/
theorem store_part {t e : TypeId} {x y : Operand} {g off : Nat} {cur : List Value} {cells : Array Value} (hgd : o.guard = none) (hd : o.dst = none) (ho : o.op = .store t x y) (hx : a.eval x = .pointer (some ⟨g, off, none⟩)) (hy : a.eval y = .agg cells)
  (hg : W.heap[g]? = some (.cells cur.toArray e (0, 0))) (hi : (P.info? t).map (·.size) = some cells.size) (hs : off + cells.size ≤ cur.length) (h1 : cells.all (·.oneCell') = true)
  (h : ∀ w1, w1.heap[g]? = some (.cells (splice cur off cells.toList).toArray e (0, 0)) → Fr W w1 (fun k => k = g) → wpList P ops Q rest a w1) : wpList P ops Q (o :: rest) a W :=
 wpList_plain hgd fun K hK => store_part_wp hd ho hx hy hg hi hs h1 (fun w1 h2 h3 => hK _ _ (by
  have := h w1 h2 h3
  exact this))
/-- The same as a step of a region that draws. -/
theorem store_part_step {t e : TypeId} {x y : Operand} {g off : Nat} {cur : List Value} {cells : Array Value} (hgd : o.guard = none) (hd : o.dst = none) (ho : o.op = .store t x y) (hx : a.eval x = .pointer (some ⟨g, off, none⟩)) (hy : a.eval y = .agg cells)
  (hg : W.heap[g]? = some (.cells cur.toArray e (0, 0))) (hi : (P.info? t).map (·.size) = some cells.size) (hs : off + cells.size ≤ cur.length) (h1 : cells.all (·.oneCell') = true)
  (h : ∀ w1, w1.heap[g]? = some (.cells (splice cur off cells.toList).toArray e (0, 0)) → Fr W w1 (fun k => k = g) → K a w1) :
  if Region.wanted o (yielded ops a.tmps) = true then Oper.wp P o a W K Q else E := by
 have hw : Region.wanted o (yielded ops a.tmps) = true := by simp [Region.wanted, hgd]
 rw [if_pos hw]
 exact store_part_wp hd ho hx hy hg hi hs h1 h
end
section
variable {P : Program} {ops : Array Oper} {rest : List Oper} {o : Oper} {a : Act} {Q : Exit → Act → World → Prop} {W : World}
/-- A value that is made with a block of its own (buildSlice, box, alloc ..). -/
theorem new_v {v : Nat → Value} {cells : Array Value} {e : TypeId} (hgd : o.guard = none) (hrun : (execOp a.eval o).run P W = .ok (.value (v W.heap.size)) (W.alloc (.cells cells e (0, 0))))
  (h : ∀ b, b = W.heap.size → ∀ w1, w1.heap[b]? = some (.cells cells e (0, 0)) → Below W.heap.size W w1 → wpList P ops Q rest (a.put o.dst (v b)) w1) : wpList P ops Q (o :: rest) a W :=
 Kd.event_run hgd hrun (h _ rfl _ (blk_new W _) (below_alloc (Below.refl _ _) _))
end
theorem C_one {k : IntKind} {W : World} {b e : Nat} {x : Int} {fr : Nat × Nat} (h : W.heap[b]? = some (.cells #[.int k x] e fr)) : (Kd.int k).C W (some ⟨b, 0, none⟩) 1 [x] := by
 refine ⟨rfl, by decide, fun _ => ⟨_, rfl, fun q y hq => ?_⟩⟩
 match q, hq with
 | 0, hq =>
  cases hq
  refine ⟨_, rfl, rfl, fun z u hu => ?_⟩
  match z, hu with
  | 0, hu =>
   cases hu
   show W.cell? ((⟨b, 0, none⟩ : Addr).add 0) = _
   rw [show ((⟨b, 0, none⟩ : Addr).add 0) = ⟨b, 0, none⟩ from rfl, cell_of_row W b 0 _ e fr h]
   rfl
/-- An empty row that was made. -/
theorem R_empty {k : IntKind} {e base b : Nat} {W : World} (h : W.heap[b]? = some (.cells #[] e (0, 0))) (hb : base ≤ b) : (Kd.int k).R e W base (fun _ => True) (.slice (some ⟨b, 0, none⟩) 0 0) [] :=
 Kd.R_of_own ⟨rfl, .inr ⟨b, 0, #[], rfl, hb, h, Nat.le_refl _, by decide, rfl, rfl⟩⟩ (fun _ _ => trivial)
end Go.Proofs.YteadamkkbgnpeaaGreat.B
end OfB2
section OfS4
set_option linter.unusedVariables false
set_option linter.unusedSimpArgs false
namespace Go.Proofs.YteadamkkbgnpeaaGreat.S
open Go.RowKit YteadamkkbgnpeaaGreatW.PrintLast B QTC YteadamkkbgnpeaaGreatW.PrintWords YteadamkkbgnpeaaGreatW.PrintMore
/-- A Sha's cells. -/
def shaC (S : List Int) (v : Value) (n : Int) : List Value := S.map (Value.int .u32) ++ [v, .int .i64 n, .bool true]
def ShaAt (w : World) (g : Nat) (S : List Int) (v : Value) (n : Int) : Prop := w.heap[g]? = some (.cells (shaC S v n).toArray 166 (0, 0))
set_option maxHeartbeats 4000000 in
set_option maxRecDepth 100000 in
theorem new_calls (w : World) : Calls Tryz.prog 63 #[] w fun e w' => ∃ g, e = .returned (.pointer (some ⟨g, 0, none⟩)) ∧ w.heap.size ≤ g ∧ ShaAt w' g H0 (.slice none 0 0) 0 ∧ Below w.heap.size w w' := by
 go_enter Tryz.func63, Tryz.ntmps63
 go_wp2_with (first
  | (go_at_call 70; refine (begin_calls _).mono ?_; rintro e w1 ⟨rfl, hw⟩; have HW := Aside0.mk hw; clear hw)
  | ((with_reducible refine gate_dst (N := 2) rfl ?_); refine Kd.event_run rfl (v := .agg (shaC H0 (.slice none 0 0) 0).toArray) (w1 := w1) ?hr ?_; (case hr => kernel_rfl))
  | ((with_reducible refine gate_dst (N := 3) rfl ?_); refine box_v rfl rfl rfl ?_; intro g hg w2 hb hw; have HB := Aside0.mk hb; have HW2 := Aside0.mk (below_step HW.out hw); have HG : Aside0 (w.heap.size ≤ g) := ⟨by rw [hg]; exact HW.out.size⟩; clear hb hw hg))
 go_ret
 exact ⟨g, rfl, HG.out, HB.out, HW2.out⟩
/-- Blocks mixed in, one behind the other; what is left. -/
def absorbN : Nat → List Int → List Int → List Int × List Int
 | 0, S, l => (S, l)
 | n + 1, S, l => absorbN n (mixV S (l.take 64)) (l.drop 64)
def absorb (S l : List Int) : List Int × List Int := absorbN (l.length / 64) S l
theorem absorb_step (S l : List Int) (h : 64 ≤ l.length) : absorb S l = absorb (mixV S (l.take 64)) (l.drop 64) := by
 unfold absorb
 rw [List.length_drop, show l.length / 64 = (l.length - 64) / 64 + 1 by omega]
 rfl
theorem absorb_end (S l : List Int) (h : ¬ 64 ≤ l.length) : absorb S l = (S, l) := by
 unfold absorb
 rw [show l.length / 64 = 0 by omega]
 rfl
theorem infoB5 : (Tryz.prog.info? 5).map (fun i => (i.zero, i.size, i.bytes)) = some (some (.int .u8 0), 1, 1) := by kernel_rfl
def S_add.T4 : Bool × List (List Nat × List Nat) := (true, [([], []), ([0], [0]), ([1], [1]), ([2], [2]), ([], []), ([4], [4]), ([5], [5]), ([6], [6]), ([7], [7]), ([], []), ([9], [9]), ([10], [10]), ([11], [11]), ([12], [12]), ([3, 8, 13], [3, 8, 13]), ([], []), ([14, 15], [14, 15]), ([16, 16, 0, 1, 2, 3, 4, 5, 6, 7, 8, 9, 10, 11, 12, 13, 14, 15, 16], [16])])
def S_add.B4 : List Nat := [0, 1, 3, 7, 0, 16, 48, 112, 240, 0, 512, 1536, 3584, 7680, 16383, 0, 65535, 131071]
theorem S_add.tab4 : rtab .any (opsOf Tryz.f64 4) = S_add.T4 := by kernel_rfl
theorem S_add.bits4 : waitsOk S_add.T4.2 S_add.B4 = true := by kernel_rfl
def S_add.T6 : Bool × List (List Nat × List Nat) := (true, [([], []), ([], []), ([1], [1]), ([2], [2]), ([3], [3]), ([], []), ([5], [5]), ([4, 6], [4, 6]), ([0, 0, 1, 2, 3, 4, 5, 6, 7], [0]), ([8, 0, 1, 2, 3, 4, 5, 6, 7], [8]), ([9, 7, 7, 0, 1, 2, 3, 4, 5, 6, 7], [7, 9])])
def S_add.B6 : List Nat := [0, 0, 2, 6, 14, 0, 32, 126, 255, 511, 1023]
theorem S_add.tab6 : rtab .any (opsOf Tryz.f64 6) = S_add.T6 := by kernel_rfl
theorem S_add.bits6 : waitsOk S_add.T6.2 S_add.B6 = true := by kernel_rfl
set_option maxHeartbeats 8000000 in
set_option maxRecDepth 100000 in
theorem add_calls (g : Nat) (l : List Int) (A : Option Addr) (c : Nat) (w : World) (hs : ShaAt w g H0 (.slice none 0 0) 0) (hr : (Kd.int .u8).C w A l.length l) (hc : l.length ≤ c) (hl : l.length ≤ 100000) (hA : ∀ ad, A = some ad → 0 < l.length → ad.block ≠ g) :
  Calls Tryz.prog 64 #[.pointer (some ⟨g, 0, none⟩), .slice A l.length c] w fun e w' => e = .returned (.int .i64 0) ∧ Fr w w' (fun k => k = g) ∧ ∃ v, ShaAt w' g (absorb H0 l).1 v l.length ∧ (Kd.int .u8).R 5 w' w.heap.size (fun _ => True) v (absorb H0 l).2 := by
 have HS := Aside0.mk hs
 have HC := Aside0.mk hr
 have HL := Aside0.mk (show l.length ≤ c ∧ l.length ≤ 100000 from ⟨hc, hl⟩)
 have c9 : w.cell? ⟨g, 9, none⟩ = some (.int .i64 0) := (blk_cell hs 9).trans rfl
 have f9 : w.frozen? ⟨g, 9, none⟩ = false := blk_frozen hs 9
 have c10 : w.cell? ⟨g, 10, none⟩ = some (.bool true) := (blk_cell hs 10).trans rfl
 have HA := Aside0.mk hA
 clear hs hr hc hl hA
 go_enter Tryz.func64, Tryz.ntmps64
 try go_wp2
 rw [show wrap64 (l.length : Int) = (l.length : Int) by have := HL.out; unfold wrap64; omega]
 have HF1 : Aside0 (Fr w (w.setCell ⟨g, 9, none⟩ (.int .i64 (l.length : Int))) (fun k => k = g)) := ⟨(Fr.refl w (fun k => k = g)).setCell (p := ⟨g, 9, none⟩) (.inl rfl) _⟩
 have HS1 : Aside0 (ShaAt (w.setCell ⟨g, 9, none⟩ (.int .i64 (l.length : Int))) g H0 (.slice none 0 0) l.length) := ⟨blk_set HS.out 9 _⟩
 have HC1 := Aside0.mk (C_fr HC.out HF1.out HA.out)
 generalize w.setCell ⟨g, 9, none⟩ (.int .i64 (l.length : Int)) = w1 at HS1 HF1 HC1 ⊢
 have HS2 : Aside0 (ShaAt w1.drew g H0 (.slice none 0 0) l.length) := ⟨HS1.out⟩
 have HF2 := Aside0.mk HF1.out.drew
 have HC2 : Aside0 ((Kd.int .u8).C w1.drew A l.length l) := ⟨Kd.C_drew HC1.out⟩
 have HC8 : Aside0 (w1.drew.cell? ⟨g, 8, none⟩ = some (.slice none 0 0)) := ⟨(blk_cell HS2.out 8).trans rfl⟩
 refine start_ (n := 18) (S := fun w' => w'.cell? ⟨g, 8, none⟩ = some (.slice none 0 0)) (ds := []) #[false, false, false, false, false, false, false, false, false, false, false, false, false, false, false, false, false, false] (by kernel_rfl) rfl rfl (HC8.out) (fun hHeld => ?_)
 refine with_tabW S_add.tab4 S_add.bits4 (fun HT_ HW_ => ?_)
 generalize w1.drew = x4 at HS2 HF2 HC2 HC8 hHeld ⊢
 refine pure_ (i := 0) (N := some 24) (v := ?_) (a' := ?_) #[true, false, false, false, false, false, false, false, false, false, false, false, false, false, false, false, false, false] rfl rfl (any_of HT_.out (by kernel_rfl)) (fun _ _ _ h => h) (Or.inl ⟨by rfl, ?_⟩) ?_ ?_
 rotate_left
 ·intro w'
  go_simp
  with_reducible rfl
 rotate_left
 ·simp only [Act.put, List.setIfInBounds_toArray, List.set_cons_zero, List.set_cons_succ, i64_w, i32_w]
  rfl
 refine pure_ (i := 1) (N := some 25) (v := ?_) (a' := ?_) #[true, true, false, false, false, false, false, false, false, false, false, false, false, false, false, false, false, false] rfl rfl (any_of HT_.out (by kernel_rfl)) (fun _ _ _ h => h) (Or.inl ⟨by rfl, ?_⟩) ?_ ?_
 rotate_left
 ·intro w'
  go_simp
  with_reducible rfl
 rotate_left
 ·simp only [Act.put, List.setIfInBounds_toArray, List.set_cons_zero, List.set_cons_succ, i64_w, i32_w]
  rfl
 refine pure_ (i := 2) (N := some 26) (v := ?_) (a' := ?_) #[true, true, true, false, false, false, false, false, false, false, false, false, false, false, false, false, false, false] rfl rfl (any_of HT_.out (by kernel_rfl)) (fun _ _ _ h => h) (Or.inl ⟨by rfl, ?_⟩) ?_ ?_
 rotate_left
 ·intro w'
  go_simp
  with_reducible rfl
 rotate_left
 ·simp only [Act.put, List.setIfInBounds_toArray, List.set_cons_zero, List.set_cons_succ, i64_w, i32_w]
  rfl
 refine pure_ (i := 4) (N := some 28) (v := ?_) (a' := ?_) #[true, true, true, false, true, false, false, false, false, false, false, false, false, false, false, false, false, false] rfl rfl (any_of HT_.out (by kernel_rfl)) (fun _ _ _ h => h) (Or.inl ⟨by rfl, ?_⟩) ?_ ?_
 rotate_left
 ·intro w'
  go_simp
  with_reducible rfl
 rotate_left
 ·simp only [Act.put, List.setIfInBounds_toArray, List.set_cons_zero, List.set_cons_succ, i64_w, i32_w]
  rfl
 refine pure_ (i := 5) (N := some 29) (v := ?_) (a' := ?_) #[true, true, true, false, true, true, false, false, false, false, false, false, false, false, false, false, false, false] rfl rfl (any_of HT_.out (by kernel_rfl)) (fun _ _ _ h => h) (Or.inl ⟨by rfl, ?_⟩) ?_ ?_
 rotate_left
 ·intro w'
  go_simp
  with_reducible rfl
 rotate_left
 ·simp only [Act.put, List.setIfInBounds_toArray, List.set_cons_zero, List.set_cons_succ, i64_w, i32_w]
  rfl
 refine pure_ (i := 6) (N := some 30) (v := ?_) (a' := ?_) #[true, true, true, false, true, true, true, false, false, false, false, false, false, false, false, false, false, false] rfl rfl (any_of HT_.out (by kernel_rfl)) (fun _ _ _ h => h) (Or.inl ⟨by rfl, ?_⟩) ?_ ?_
 rotate_left
 ·intro w'
  go_simp
  with_reducible rfl
 rotate_left
 ·simp only [Act.put, List.setIfInBounds_toArray, List.set_cons_zero, List.set_cons_succ, i64_w, i32_w]
  rfl
 refine pure_ (i := 9) (N := some 33) (v := ?_) (a' := ?_) #[true, true, true, false, true, true, true, false, false, true, false, false, false, false, false, false, false, false] rfl rfl (any_of HT_.out (by kernel_rfl)) (fun _ _ _ h => h) (Or.inl ⟨by rfl, ?_⟩) ?_ ?_
 rotate_left
 ·intro w'
  go_simp
  with_reducible rfl
 rotate_left
 ·simp only [Act.put, List.setIfInBounds_toArray, List.set_cons_zero, List.set_cons_succ, i64_w, i32_w]
  rfl
 refine pure_ (i := 10) (N := some 34) (v := ?_) (a' := ?_) #[true, true, true, false, true, true, true, false, false, true, true, false, false, false, false, false, false, false] rfl rfl (any_of HT_.out (by kernel_rfl)) (fun _ _ _ h => h) (Or.inl ⟨by rfl, ?_⟩) ?_ ?_
 rotate_left
 ·intro w'
  go_simp
  with_reducible rfl
 rotate_left
 ·simp only [Act.put, List.setIfInBounds_toArray, List.set_cons_zero, List.set_cons_succ, i64_w, i32_w]
  rfl
 refine pure_ (i := 11) (N := some 35) (v := ?_) (a' := ?_) #[true, true, true, false, true, true, true, false, false, true, true, true, false, false, false, false, false, false] rfl rfl (any_of HT_.out (by kernel_rfl)) (fun _ _ _ h => h) (Or.inl ⟨by rfl, ?_⟩) ?_ ?_
 rotate_left
 ·intro w'
  go_simp
  with_reducible rfl
 rotate_left
 ·simp only [Act.put, List.setIfInBounds_toArray, List.set_cons_zero, List.set_cons_succ, i64_w, i32_w]
  rfl
 refine pure_ (i := 15) (N := some 39) (v := ?_) (a' := ?_) #[true, true, true, false, true, true, true, false, false, true, true, true, false, false, false, true, false, false] rfl rfl (any_of HT_.out (by kernel_rfl)) (fun _ _ _ h => h) (Or.inl ⟨by rfl, ?_⟩) ?_ ?_
 rotate_left
 ·intro w'
  go_simp
  with_reducible rfl
 rotate_left
 ·simp only [Act.put, List.setIfInBounds_toArray, List.set_cons_zero, List.set_cons_succ, i64_w, i32_w]
  rfl
 refine take_ (i := 3) (N := some 27) (v := ?_) (a' := ?_) #[true, true, true, true, true, true, true, false, false, true, true, true, false, false, false, true, false, false] rfl rfl (take_ofW HT_.out HW_.out (by kernel_rfl)) (fun _ _ _ h => h) (Or.inl ⟨by rfl, ?_⟩) hHeld ?_ ?_
 rotate_left
 ·intro w' s0
  go_simp
  with_reducible rfl
 rotate_left
 ·simp only [Act.put, List.setIfInBounds_toArray, List.set_cons_zero, List.set_cons_succ, i64_w, i32_w]
  rfl
 refine take_ (i := 7) (N := some 31) (v := ?_) (a' := ?_) #[true, true, true, true, true, true, true, true, false, true, true, true, false, false, false, true, false, false] rfl rfl (take_ofW HT_.out HW_.out (by kernel_rfl)) (fun _ _ _ h => h) (Or.inl ⟨by rfl, ?_⟩) hHeld ?_ ?_
 rotate_left
 ·intro w' s0
  go_simp
  with_reducible rfl
 rotate_left
 ·simp only [Act.put, List.setIfInBounds_toArray, List.set_cons_zero, List.set_cons_succ, i64_w, i32_w]
  rfl
 refine pure_ (i := 8) (N := some 32) (v := ?_) (a' := ?_) #[true, true, true, true, true, true, true, true, true, true, true, true, false, false, false, true, false, false] rfl rfl (any_of HT_.out (by kernel_rfl)) (fun _ _ _ h => h) (Or.inl ⟨by rfl, ?_⟩) ?_ ?_
 rotate_left
 ·intro w'
  go_simp
  with_reducible rfl
 rotate_left
 ·simp only [Act.put, List.setIfInBounds_toArray, List.set_cons_zero, List.set_cons_succ, i64_w, i32_w]
  rfl
 refine take_ (i := 12) (N := some 36) (v := ?_) (a' := ?_) #[true, true, true, true, true, true, true, true, true, true, true, true, true, false, false, true, false, false] rfl rfl (take_ofW HT_.out HW_.out (by kernel_rfl)) (fun _ _ _ h => h) (Or.inl ⟨by rfl, ?_⟩) hHeld ?_ ?_
 rotate_left
 ·intro w' s0
  go_simp
  with_reducible rfl
 rotate_left
 ·simp only [Act.put, List.setIfInBounds_toArray, List.set_cons_zero, List.set_cons_succ, i64_w, i32_w]
  rfl
 refine pure_ (i := 13) (N := some 37) (v := ?_) (a' := ?_) #[true, true, true, true, true, true, true, true, true, true, true, true, true, true, false, true, false, false] rfl rfl (any_of HT_.out (by kernel_rfl)) (fun _ _ _ h => h) (Or.inl ⟨by rfl, ?_⟩) ?_ ?_
 rotate_left
 ·intro w'
  go_simp
  with_reducible rfl
 rotate_left
 ·simp only [Act.put, List.setIfInBounds_toArray, List.set_cons_zero, List.set_cons_succ, i64_w, i32_w]
  rfl
 refine pure_ (i := 14) (N := some 38) (v := ?_) (a' := ?_) #[true, true, true, true, true, true, true, true, true, true, true, true, true, true, true, true, false, false] rfl rfl (any_of HT_.out (by kernel_rfl)) (fun _ _ _ h => h) (Or.inl ⟨by rfl, ?_⟩) ?_ ?_
 rotate_left
 ·intro w'
  go_simp
  with_reducible rfl
 rotate_left
 ·simp only [Act.put, List.setIfInBounds_toArray, List.set_cons_zero, List.set_cons_succ, i64_w, i32_w]
  rfl
 refine one_ (i := 16) (N := some 40) #[true, true, true, true, true, true, true, true, true, true, true, true, true, true, true, true, true, false] rfl rfl (one_of HT_.out (by kernel_rfl)) (by decide) (fun K hK => ?_)
 refine Kd.R_append_rows_step (Kd.int .u8) (w0 := x4) w.heap.size rfl (.tmp 38) (.tmp 39) 22 5 (.int .u8 0) 1 rfl Tryz.underlying22 infoB5 rfl (by decide) (by decide) (.slice none 0 0) [] l A l.length c (fun _ => True) (fun _ => False) rfl rfl (Kd.R_nil _ _ _ _ _) HC2.out (fun _ _ h => h) (fun _ hk => hk.elim) (fun _ _ => trivial) (Below.refl _ _) HF2.out.size (by have := HL.out; simp; omega) ?_
 intro v4 x5 ho hb hg _
 have HO5 : Aside0 ((Kd.int .u8).R 5 x5 w.heap.size (fun _ => True) v4 l) := ⟨ho⟩
 have HF5 := Aside0.mk (HF2.out.grown hg (fun k hk => by cases hk))
 have HS5 : Aside0 (ShaAt x5 g H0 (.slice none 0 0) l.length) := ⟨(hg.block g (blk_lt HS2.out) (by intro e; cases e)).trans HS2.out⟩
 clear ho hb hg
 refine hK.out _ _ (((blk_cell HS5.out 8).trans rfl)) (fun hHeld => ?_)
 clear hK K
 refine norm_ (a' := ?_) ?_ ?_
 rotate_left
 ·show Act.put _ (some 40) _ = _
  simp only [Act.put, List.setIfInBounds_toArray, List.set_cons_zero, List.set_cons_succ, i64_w, i32_w]
  rfl
 refine pure_ (i := 17) (N := some 5) (v := ?_) (a' := ?_) #[true, true, true, true, true, true, true, true, true, true, true, true, true, true, true, true, true, true] rfl rfl (any_of HT_.out (by kernel_rfl)) (fun _ _ _ h => h) (Or.inl ⟨by rfl, ?_⟩) ?_ ?_
 rotate_left
 ·intro w'
  go_simp
  with_reducible rfl
 rotate_left
 ·simp only [Act.put, List.setIfInBounds_toArray, List.set_cons_zero, List.set_cons_succ, i64_w, i32_w]
  rfl
 refine done_ (done_of HT_.out (by kernel_rfl)) ?_

 obtain ⟨B5, cB5, hv5, hcB5, hCB5⟩ := Kd.R_reads HO5.out
 have HNB : Aside0 (∀ ad, B5 = some ad → 0 < l.length → ad.block ≠ g) := ⟨by
  intro ad e hn h
  have hb := Kd.R_base HO5.out g (by rw [hv5, e]; simp [Value.ownBlock, h])
  have := blk_lt HS.out
  omega⟩
 have HC5 := Aside0.mk hCB5
 have HCB := Aside0.mk hcB5
 subst hv5
 clear hCB5 hcB5
 try go_wp2
 go_loopg [5] (l.length + 1) (fun kq v5 w' => ∃ (B : Option Addr) (cb : Nat) (m S : List Int), v5 = .slice B m.length cb ∧ Aside0 (kq = m.length + 1 ∧ m.length ≤ cb ∧ m.length ≤ 100000 ∧ S.length = 8) ∧ Aside0 (absorb S m = absorb H0 l) ∧ Aside0 ((Kd.int .u8).C w' B m.length m) ∧ Aside0 (∀ ad, B = some ad → 0 < m.length → ad.block ≠ g) ∧ Aside0 (ShaAt w' g S (.slice none 0 0) l.length) ∧ Aside0 (Fr w w' (fun k => k = g)))
 case atStart => exact ⟨B5, cB5, l, H0, by first | rfl | simp, ⟨rfl, HCB.out, HL.out.2, rfl⟩, ⟨rfl⟩, HC5, HNB, HS5, HF5⟩
 case round =>
  obtain ⟨B, cb, m, S, rfl, HK, HAB, HCM, HNM, HSM, HFM⟩ := hrel
  clear HC5 HCB HNB HS5 HF5 HO5 HS2 HF2 HC2 HC8 HS1 HF1 HC1
  by_cases c1 : (64 : Int) ≤ (m.length : Int)
  ·have c1b : decide ((64 : Int) ≤ (m.length : Int)) = true := decide_eq_true c1
   have HM64 : Aside0 (64 ≤ m.length) := ⟨by omega⟩
   have HGE := eq_true c1
   clear c1
   obtain ⟨a0, a1, a2, a3, a4, a5, a6, a7, hV⟩ : ∃ a0 a1 a2 a3 a4 a5 a6 a7, S = [a0, a1, a2, a3, a4, a5, a6, a7] := by
    have hl := HK.out.2.2.2
    match S, hl with
    | [a0, a1, a2, a3, a4, a5, a6, a7], _ => exact ⟨a0, a1, a2, a3, a4, a5, a6, a7, rfl⟩
   subst hV
   obtain ⟨j5, hj5, hs5⟩ := info5
   obtain ⟨T, hT⟩ : ∃ T, T = m.take 64 := ⟨_, rfl⟩
   have hTl : T.length = 64 := by rw [hT, List.length_take]; have := HM64.out; omega
   have hcut : ∀ W : World, (Instr.slice 22 (.slice B m.length cb) none (some (.int .i64 64)) none).run Tryz.prog W = .ok (.slice B T.length cb) W := by
    intro W
    rw [cut_to 22 5 .i64 Tryz.underlying22 hj5 B m.length cb 64 (by decide) (by have := HM64.out; omega) HK.out.2.1 W, hTl]
    rfl
   obtain ⟨B', hB'⟩ : ∃ B', B' = (if cb = 64 then B else B.map (·.add (64 * 1))) := ⟨_, rfl⟩
   obtain ⟨D, hD⟩ : ∃ D, D = m.drop 64 := ⟨_, rfl⟩
   have hDl : D.length = m.length - 64 := by rw [hD, List.length_drop]
   have hcut2 : ∀ W : World, (Instr.slice 22 (.slice B m.length cb) (some (.int .i64 64)) none none).run Tryz.prog W = .ok (.slice B' D.length (cb - 64)) W := by
    intro W
    rw [cut_from 22 5 .i64 Tryz.underlying22 hj5 1 hs5 B m.length cb 64 (by decide) (by have := HM64.out; omega) W, hB', hDl]
    rfl
   have HTD := Aside0.mk (show T = m.take 64 ∧ T.length = 64 ∧ D = m.drop 64 ∧ D.length = m.length - 64 from ⟨hT, hTl, hD, hDl⟩)
   have HBB := Aside0.mk hB'
   clear hj5 hs5 hT hTl hD hDl hB'
   try go_wp2
   have HSR : Aside0 (ShaAt wr.drew g [a0, a1, a2, a3, a4, a5, a6, a7] (.slice none 0 0) l.length) := ⟨HSM.out⟩
   have HFR := Aside0.mk HFM.out.drew
   have HCR : Aside0 ((Kd.int .u8).C wr.drew B m.length m) := ⟨Kd.C_drew HCM.out⟩
   obtain ⟨X, hX⟩ : ∃ X, mixV [a0, a1, a2, a3, a4, a5, a6, a7] T = X := ⟨_, rfl⟩
   have HXL : Aside0 (X.length = 8) := ⟨by rw [← hX]; exact mixV_len _ _ rfl⟩
   have HX := Aside0.mk hX
   clear hX
   refine start_ (n := 11) (S := fun w' => w'.cell? ⟨g, 0, none⟩ = some (.int .u32 a0) ∧ w'.cell? ⟨g, 1, none⟩ = some (.int .u32 a1) ∧ w'.cell? ⟨g, 2, none⟩ = some (.int .u32 a2) ∧ w'.cell? ⟨g, 3, none⟩ = some (.int .u32 a3) ∧ w'.cell? ⟨g, 4, none⟩ = some (.int .u32 a4) ∧ w'.cell? ⟨g, 5, none⟩ = some (.int .u32 a5) ∧ w'.cell? ⟨g, 6, none⟩ = some (.int .u32 a6) ∧ w'.cell? ⟨g, 7, none⟩ = some (.int .u32 a7)) (ds := [10]) #[false, false, false, false, false, false, false, false, false, false, false] (by kernel_rfl) rfl rfl ⟨((blk_cell HSR.out 0).trans rfl), ((blk_cell HSR.out 1).trans rfl), ((blk_cell HSR.out 2).trans rfl), ((blk_cell HSR.out 3).trans rfl), ((blk_cell HSR.out 4).trans rfl), ((blk_cell HSR.out 5).trans rfl), ((blk_cell HSR.out 6).trans rfl), ((blk_cell HSR.out 7).trans rfl)⟩ (fun hHeld => ?_)
   refine with_tabW S_add.tab6 S_add.bits6 (fun HT_ HW_ => ?_)
   generalize wr.drew = x6 at HSR HFR HCR hHeld ⊢
   refine pure_ (i := 0) (N := some 44) (v := ?_) (a' := ?_) #[true, false, false, false, false, false, false, false, false, false, false] rfl rfl (any_of HT_.out (by kernel_rfl)) (fun _ _ _ h => h) (Or.inl ⟨by rfl, ?_⟩) ?_ ?_
   rotate_left
   ·intro w'
    go_simp
    with_reducible rfl
   rotate_left
   ·simp only [Act.put, List.setIfInBounds_toArray, List.set_cons_zero, List.set_cons_succ, i64_w, i32_w]
    rfl
   refine pure_ (i := 1) (N := some 45) (v := ?_) (a' := ?_) #[true, true, false, false, false, false, false, false, false, false, false] rfl rfl (any_of HT_.out (by kernel_rfl)) (fun _ _ _ h => h) (Or.inl ⟨by rfl, ?_⟩) ?_ ?_
   rotate_left
   ·intro w'
    go_simp
    with_reducible rfl
   rotate_left
   ·simp only [Act.put, List.setIfInBounds_toArray, List.set_cons_zero, List.set_cons_succ, i64_w, i32_w]
    rfl
   refine pure_ (i := 2) (N := some 46) (v := ?_) (a' := ?_) #[true, true, true, false, false, false, false, false, false, false, false] rfl rfl (any_of HT_.out (by kernel_rfl)) (fun _ _ _ h => h) (Or.inl ⟨by rfl, ?_⟩) ?_ ?_
   rotate_left
   ·intro w'
    go_simp
    with_reducible rfl
   rotate_left
   ·simp only [Act.put, List.setIfInBounds_toArray, List.set_cons_zero, List.set_cons_succ, i64_w, i32_w]
    rfl
   refine pure_ (i := 3) (N := some 47) (v := ?_) (a' := ?_) #[true, true, true, true, false, false, false, false, false, false, false] rfl rfl (any_of HT_.out (by kernel_rfl)) (fun _ _ _ h => h) (Or.inl ⟨by rfl, ?_⟩) ?_ ?_
   rotate_left
   ·intro w'
    go_simp
    with_reducible rfl
   rotate_left
   ·simp only [Act.put, List.setIfInBounds_toArray, List.set_cons_zero, List.set_cons_succ, i64_w, i32_w]
    rfl
   refine pure_ (i := 5) (N := some 49) (v := ?_) (a' := ?_) #[true, true, true, true, false, true, false, false, false, false, false] rfl rfl (any_of HT_.out (by kernel_rfl)) (fun _ _ _ h => h) (Or.inl ⟨by rfl, ?_⟩) ?_ ?_
   rotate_left
   ·intro w'
    go_simp
    with_reducible rfl
   rotate_left
   ·simp only [Act.put, List.setIfInBounds_toArray, List.set_cons_zero, List.set_cons_succ, i64_w, i32_w]
    rfl
   refine pure_ (i := 6) (N := some 50) (v := ?_) (a' := ?_) #[true, true, true, true, false, true, true, false, false, false, false] rfl rfl (any_of HT_.out (by kernel_rfl)) (fun _ _ _ h => h) (Or.inl ⟨by rfl, ?_⟩) ?_ ?_
   rotate_left
   ·intro w'
    go_simp
    with_reducible rfl
   rotate_left
   ·simp only [Act.put, List.setIfInBounds_toArray, List.set_cons_zero, List.set_cons_succ, i64_w, i32_w]
    rfl
   refine take_ (i := 4) (N := some 48) (v := ?_) (a' := ?_) #[true, true, true, true, true, true, true, false, false, false, false] rfl rfl (take_ofW HT_.out HW_.out (by kernel_rfl)) (fun _ _ _ h => h) (Or.inl ⟨by rfl, ?_⟩) hHeld ?_ ?_
   rotate_left
   ·rintro w' ⟨s0, s1, s2, s3, s4, s5, s6, s7⟩
    go_simp
    with_reducible rfl
   rotate_left
   ·simp only [Act.put, List.setIfInBounds_toArray, List.set_cons_zero, List.set_cons_succ, i64_w, i32_w]
    rfl
   refine one_ (i := 7) (N := some 51) #[true, true, true, true, true, true, true, true, false, false, false] rfl rfl (one_of HT_.out (by kernel_rfl)) (by decide) (fun K hK => ?_)
   refine goes_ Tryz.func71 (by kernel_rfl) rfl #[.agg (u32s [a0, a1, a2, a3, a4, a5, a6, a7]), .slice B T.length cb] (by rfl) rfl rfl (by simp only [List.map_toArray, List.map_cons, List.map_nil]; rfl) ?_
   with_reducible refine (mix_calls [a0, a1, a2, a3, a4, a5, a6, a7] T rfl B cb _ (by rw [HTD.out.1]; exact Kd.C_take HCR.out (by have := HM64.out; omega)) (by rw [HTD.out.2.1]; exact Nat.le_refl _) (by rw [HTD.out.2.1]; have := HK.out; have := HM64.out; omega)).mono ?_
   rw [HX.out]
   rintro e x7 ⟨rfl, hb⟩
   refine ⟨_, rfl, ?_⟩
   have HS7 : Aside0 (ShaAt x7 g [a0, a1, a2, a3, a4, a5, a6, a7] (.slice none 0 0) l.length) := ⟨(hb.block g (blk_lt HSR.out)).trans HSR.out⟩
   have HF7 := Aside0.mk (HFR.out.then_below hb)
   have HC7 := Aside0.mk (Kd.C_below HCR.out hb)
   clear hb
   refine hK.out _ _ ⟨((blk_cell HS7.out 0).trans rfl), ((blk_cell HS7.out 1).trans rfl), ((blk_cell HS7.out 2).trans rfl), ((blk_cell HS7.out 3).trans rfl), ((blk_cell HS7.out 4).trans rfl), ((blk_cell HS7.out 5).trans rfl), ((blk_cell HS7.out 6).trans rfl), ((blk_cell HS7.out 7).trans rfl)⟩ (fun hHeld => ?_)
   clear hK K
   refine norm_ (a' := ?_) ?_ ?_
   rotate_left
   ·show Act.put _ (some 51) _ = _
    simp only [Act.put, List.setIfInBounds_toArray, List.set_cons_zero, List.set_cons_succ, i64_w, i32_w]
    rfl
   refine pure_ (i := 8) (N := some 52) (v := ?_) (a' := ?_) #[true, true, true, true, true, true, true, true, true, false, false] rfl rfl (any_of HT_.out (by kernel_rfl)) (fun _ _ _ h => h) (Or.inl ⟨by rfl, ?_⟩) ?_ ?_
   rotate_left
   ·intro w'
    go_simp
    with_reducible rfl
   rotate_left
   ·simp only [Act.put, List.setIfInBounds_toArray, List.set_cons_zero, List.set_cons_succ, i64_w, i32_w]
    rfl
   refine pure_ (i := 9) (N := some 53) (v := ?_) (a' := ?_) #[true, true, true, true, true, true, true, true, true, true, false] rfl rfl (any_of HT_.out (by kernel_rfl)) (fun _ _ _ h => h) (Or.inl ⟨by rfl, ?_⟩) ?_ ?_
   rotate_left
   ·intro w'
    go_simp
    with_reducible rfl
   rotate_left
   ·simp only [Act.put, List.setIfInBounds_toArray, List.set_cons_zero, List.set_cons_succ, i64_w, i32_w]
    rfl
   refine last_ (i := 10) (N := none) #[true, true, true, true, true, true, true, true, true, true, true] rfl rfl (one_of HT_.out (by kernel_rfl)) (by decide) (fun K hK => ?_)
   refine store_part_step (t := 163) (e := 166) (g := g) (off := 0) (cur := shaC [a0, a1, a2, a3, a4, a5, a6, a7] (.slice none 0 0) l.length) (cells := u32s X) rfl rfl rfl rfl rfl HS7.out (by rw [u32s_size, HXL.out]; exact size163) (by rw [u32s_size, HXL.out]; simp [shaC]) (u32s_one _) ?_
   intro x8 hb hf
   have HS8 : Aside0 (ShaAt x8 g X (.slice none 0 0) l.length) := ⟨by rw [ShaAt, hb]; simp [splice, shaC, u32s, HXL.out]⟩
   have HF8 := Aside0.mk (HF7.out.trans hf (fun k e => .inl e))
   have HC8 := Aside0.mk (C_fr HC7.out hf HNM.out)
   clear hb hf
   refine hK.out _ _ ?_
   clear hK K
   refine done_ (done_of HT_.out (by kernel_rfl)) ?_

   go_wp2
   go_roundg (D.length + 1)
   case measure => have := HK.out; have := HM64.out; have := HTD.out.2.2.2; omega
   case rel =>
    refine ⟨B', cb - 64, D, X, by first | rfl | simp, ⟨by have := HK.out; have := HM64.out; have := HTD.out.2.2.2; have := HXL.out; omega⟩, ⟨?_⟩, ⟨?_⟩, ⟨?_⟩, HS8, HF8⟩
    ·have h := HAB.out
     rw [absorb_step _ _ HM64.out, ← HTD.out.1, ← HTD.out.2.2.1, HX.out] at h
     exact h
    ·rw [HTD.out.2.2.1, HBB.out]
     exact Kd.C_drop HC8.out HM64.out HK.out.2.1
    ·intro ad e hn
     rw [HBB.out] at e
     have hm := HM64.out
     have hd := HTD.out
     rw [if_neg (by have := HK.out; omega)] at e
     cases hB : B with
     | none => rw [hB] at e; cases e
     | some b =>
      rw [hB] at e
      injection e with e
      rw [← e, add_block]
      exact HNM.out b hB (by omega)
  ·have c1b : decide ((64 : Int) ≤ (m.length : Int)) = false := decide_eq_false c1
   have HAE := Aside0.mk (absorb_end S m (by omega))
   clear c1
   have HW8 : Aside0 (ShaAt (wr.alloc (.cells #[] 5)) g S (.slice none 0 0) l.length) := ⟨(Below.heap_alloc wr _ g (blk_lt HSM.out)).trans HSM.out⟩
   have HE8 : Aside0 ((Kd.int .u8).R 5 (wr.alloc (.cells #[] 5)) w.heap.size (fun _ => True) (.slice (some ⟨wr.heap.size, 0, none⟩) 0 0) []) := ⟨R_empty (heap_alloc_new wr _) HFM.out.size⟩
   have HC8 := Aside0.mk (Kd.C_alloc HCM.out (.cells #[] 5))
   have HF8 := Aside0.mk (HFM.out.alloc (.cells #[] 5))
   go_wp2_with (first
    | ((with_reducible refine gate_builtin (b := .append) (xs := #[.tmp 57, .tmp 58]) rfl ?_); at_builtin; refine Kd.R_append_rows (Kd.int .u8) (w0 := wr.alloc (.cells #[] 5)) w.heap.size rfl (.tmp 57) (.tmp 58) 22 5 (.int .u8 0) 1 rfl Tryz.underlying22 infoB5 rfl (by decide) (by decide) (.slice (some ⟨wr.heap.size, 0, none⟩) 0 0) [] m B m.length cb (fun _ => True) (fun _ => False) rfl rfl HE8.out HC8.out (fun _ _ h => h) (fun _ hk => hk.elim) (fun _ _ => trivial) (Below.refl _ _) HF8.out.size (by have := HK.out; simp; omega) ?_; intro v9 x9 ho hb hg _; have HO9 : Aside0 ((Kd.int .u8).R 5 x9 w.heap.size (fun _ => True) v9 m) := ⟨ho⟩; have HS9 : Aside0 (ShaAt x9 g S (.slice none 0 0) l.length) := ⟨(hg.block g (blk_lt HW8.out) (by intro e; have h2 := blk_lt HSM.out; simp only [Value.ownBlock, Option.some.injEq] at e; omega)).trans HW8.out⟩; have HF9 := Aside0.mk (HF8.out.grown hg (fun k hk => by simp only [Value.ownBlock, Option.some.injEq] at hk; right; rw [← hk]; exact HFM.out.size)); clear ho hb hg; obtain ⟨B9, c9', hv9⟩ := Kd.R_slice HO9.out; subst hv9; have hc8 := (blk_cell HS9.out 8).trans (show _ = some (Value.slice none 0 0) by simp [shaC, HK.out.2.2.2]); have hf8 := blk_frozen HS9.out 8))
   go_ret
   have hab : absorb H0 l = (S, m) := HAB.out.symm.trans HAE.out
   have hfin : ShaAt (x9.setCell ⟨g, 8, none⟩ (.slice B9 m.length c9')) g S (.slice B9 m.length c9') l.length := by
    have := blk_set HS9.out 8 (.slice B9 m.length c9')
    rw [ShaAt, this]
    simp [shaC, HK.out.2.2.2]
   refine ⟨rfl, HF9.out.setCell (p := ⟨g, 8, none⟩) (.inl rfl) _, .slice B9 m.length c9', ?_, ?_⟩
   ·rw [hab]; exact hfin
   ·rw [hab]; exact Kd.R_set HO9.out HS9.out (by intro q hq; simp [Kd.int, Kd.scalar] at hq; omega) 8 _
end Go.Proofs.YteadamkkbgnpeaaGreat.S
end OfS4
section OfS5
set_option linter.unusedVariables false
set_option linter.unusedSimpArgs false
namespace Go.Proofs.YteadamkkbgnpeaaGreat.S
open Go.RowKit YteadamkkbgnpeaaGreatW.PrintLast B QTC YteadamkkbgnpeaaGreatW.PrintWords YteadamkkbgnpeaaGreatW.PrintMore
/-- The zeros that pad. -/
def padZ (m : List Int) : Nat := if m.length ≤ 55 then 55 - m.length else 119 - m.length
theorem padZ_iff (m : List Int) (h : m.length < 64) (j : Nat) (hj : j ≤ padZ m) : (m.length + 1 + j) % 64 = 56 ↔ j = padZ m := by
 unfold padZ at *
 split at hj <;> rename_i h1
 ·rw [if_pos h1]; omega
 ·rw [if_neg h1]; omega
/-- A byte of the length. -/
def lenB (n : Int) : Nat → List Int
 | 0 => []
 | i + 1 => lenB n i ++ [IntKind.u64.wrap (IntKind.u64.wrap n * 8) / 2 ^ (8 * (7 - i)) % 256]
theorem lenB_len (n : Int) : ∀ i, (lenB n i).length = i
 | 0 => rfl
 | i + 1 => by rw [lenB, List.length_append, lenB_len n i]; rfl
/-- What is mixed at the end. -/
def lastB (m : List Int) (n : Int) : List Int := m ++ [128] ++ List.replicate (padZ m) 0 ++ lenB n 8
theorem lastB_len (m : List Int) (n : Int) (h : m.length < 64) : (lastB m n).length = 64 ∨ (lastB m n).length = 128 := by
 unfold lastB padZ
 simp only [List.length_append, List.length_singleton, List.length_replicate, lenB_len]
 split <;> omega
def u8s (xs : List Int) : Array Value := (xs.map (Value.int .u8)).toArray
theorem u8s_size (xs : List Int) : (u8s xs).size = xs.length := by simp [u8s]
theorem u8s_at (xs : List Int) (i : Nat) (h : i < xs.length) : (u8s xs)[i]? = some (.int .u8 (xs.getD i 0)) := by
 simp [u8s, h, List.getD_eq_getElem?_getD]
theorem u8s_set (xs : List Int) (i : Nat) (x : Int) : (u8s xs).setIfInBounds i (.int .u8 x) = u8s (xs.set i x) := by
 simp [u8s]
theorem u8s_one (xs : List Int) : (u8s xs).all (·.oneCell') = true := by
 rw [Array.all_eq_true_iff_forall_mem]
 intro v hv
 simp only [u8s, List.mem_toArray, List.mem_map] at hv
 obtain ⟨x, _, rfl⟩ := hv
 rfl
def ArrB (w : World) (g t : Nat) (xs : List Int) : Prop := w.heap[g]? = some (.cells (u8s xs) t (0, 0))
section
variable {w w1 : World} {g t : Nat} {xs : List Int}
theorem ArrB.cell (h : ArrB w g t xs) (i : Nat) (hi : i < xs.length) : w.cell? ⟨g, i, none⟩ = some (.int .u8 (xs.getD i 0)) := (blk_cell h i).trans (u8s_at xs i hi)
theorem ArrB.frozen (h : ArrB w g t xs) (i : Nat) : w.frozen? ⟨g, i, none⟩ = false := blk_frozen h i
theorem ArrB.set (h : ArrB w g t xs) (i : Nat) (x : Int) : ArrB (w.setCell ⟨g, i, none⟩ (.int .u8 x)) g t (xs.set i x) := by
 have := blk_set h i (.int .u8 x)
 rw [u8s_set] at this
 exact this
theorem ArrB.below (h : ArrB w g t xs) (k : Below w.heap.size w w1) : ArrB w1 g t xs := (k.block g (blk_lt h)).trans h
theorem ArrB.fr {S : Nat → Prop} (h : ArrB w g t xs) (k : Fr w w1 S) (hn : ¬ S g) : ArrB w1 g t xs := k.blk h hn
end
theorem size37 : (Tryz.prog.info? 37).map (·.size) = some 1 := by kernel_rfl
theorem index_u32 (V : List Int) (hV : V.length = 8) (i : Nat) (hi : i < 8) (W : World) : (Instr.index 163 (.agg (u32s V)) (.int .i64 (i : Int))).run Tryz.prog W = .ok (.int .u32 (V.getD i 0)) W := by
 obtain ⟨j, hj, hs⟩ := Option.map_eq_some_iff.1 size37
 have hat := u32s_at V i (by omega)
 have h0 : (0 : Int) ≤ (i : Int) ∧ (i : Int) < 8 := by omega
 simp [Instr.index, asIntOf, Sem.run_bind, run_underlying Tryz.underlying163, part, isAgg, sizeOf, typeInfo, run_underlying Tryz.underlying37, hj, hs, hat]
 omega
/-- The first c bytes of a state, then zeros. -/
def outB (V : List Int) (c : Nat) : List Int := (List.range 32).map fun j => if j < c then V.getD (j / 4) 0 / 2 ^ (24 - 8 * (j % 4)) % 256 else 0
theorem outB_len (V : List Int) (c : Nat) : (outB V c).length = 32 := by simp [outB]
theorem outB_zero (V : List Int) : outB V (4 * 0) = List.replicate 32 0 := rfl
theorem outB_set (V : List Int) (c : Nat) (h : c < 32) : (outB V c).set c (V.getD (c / 4) 0 / 2 ^ (24 - 8 * (c % 4)) % 256) = outB V (c + 1) := by
 apply List.ext_getElem?
 intro j
 rw [List.getElem?_set]
 by_cases hj : j < 32
 ·by_cases e : c = j
  ·subst e
   rw [if_pos rfl, if_pos (by rw [outB_len]; exact h)]
   simp [outB, hj]
  ·rw [if_neg e]
   simp only [outB, List.getElem?_map, List.getElem?_range hj, Option.map_some, Option.some.injEq]
   by_cases h1 : j < c
   ·rw [if_pos h1, if_pos (by omega)]
   ·rw [if_neg h1, if_neg (by omega)]
 ·rw [if_neg (by omega), List.getElem?_eq_none (by rw [outB_len]; omega), List.getElem?_eq_none (by rw [outB_len]; omega)]
/-- What Sum tells. -/
def sumV (S m : List Int) (n : Int) : List Int := outB (absorb S (lastB m n)).1 32
theorem sumV_len (S m : List Int) (n : Int) : (sumV S m n).length = 32 := outB_len _ _
theorem info103 : (Tryz.prog.info? 103).bind (·.zero) = some (.agg (u8s (List.replicate 32 0))) := by kernel_rfl
theorem size103 : (Tryz.prog.info? 103).map (·.size) = some 32 := by kernel_rfl
def S_sum.T13 : Bool × List (List Nat × List Nat) := (true, [([], []), ([], []), ([1], [1]), ([0, 2], [0, 2]), ([3, 3, 0, 1, 2, 3], [3])])
def S_sum.B13 : List Nat := [0, 0, 2, 7, 15]
theorem S_sum.tab13 : rtab .any (opsOf Tryz.f65 13) = S_sum.T13 := by kernel_rfl
theorem S_sum.bits13 : waitsOk S_sum.T13.2 S_sum.B13 = true := by kernel_rfl
set_option maxHeartbeats 8000000 in
set_option maxRecDepth 100000 in
theorem sum_calls (g : Nat) (S m : List Int) (hS : S.length = 8) (B : Option Addr) (cb : Nat) (n : Int) (w : World) (hs : ShaAt w g S (.slice B m.length cb) n) (hr : (Kd.int .u8).C w B m.length m) (hc : m.length ≤ cb) (hm : m.length < 64) (hn : 0 ≤ n ∧ n ≤ 100000) :
  Calls Tryz.prog 65 #[.pointer (some ⟨g, 0, none⟩)] w fun e w' => e = .returned (.tuple #[.agg (u8s (sumV S m n)), .int .i64 0]) ∧ Below w.heap.size w w' := by
 have HS := Aside0.mk hs
 have HC := Aside0.mk hr
 have HL := Aside0.mk (show m.length ≤ cb ∧ m.length < 64 ∧ S.length = 8 ∧ 0 ≤ n ∧ n ≤ 100000 from ⟨hc, hm, hS, hn⟩)
 clear hs hr hc hm hn hS
 have Q8 : ∀ w1, Below w.heap.size w w1 → w1.cell? ⟨g, 8, none⟩ = some (.slice B m.length cb) := fun w1 h => by
  rw [blk_cell ((h.block g (blk_lt HS.out)).trans HS.out) 8]; simp [shaC, HL.out.2.2.1]
 have Q9 : ∀ w1, Below w.heap.size w w1 → w1.cell? ⟨g, 9, none⟩ = some (.int .i64 n) := fun w1 h => by
  rw [blk_cell ((h.block g (blk_lt HS.out)).trans HS.out) 9]; simp [shaC, HL.out.2.2.1]
 have Q10 : ∀ w1, Below w.heap.size w w1 → w1.cell? ⟨g, 10, none⟩ = some (.bool true) := fun w1 h => by
  rw [blk_cell ((h.block g (blk_lt HS.out)).trans HS.out) 10]; simp [shaC, HL.out.2.2.1]
 have HQ8 := Aside0.mk Q8
 have HQ9 := Aside0.mk Q9
 have HQ10 := Aside0.mk Q10
 clear Q8 Q9 Q10
 go_enter Tryz.func65, Tryz.ntmps65
 go_wp2_with (first
  | ((with_reducible refine gate_dst (N := 2) rfl ?_); refine alloc_v rfl rfl info103 ?hr ?_; (case hr => rfl); intro ga hg w1 hb hw; have HB1 := Aside0.mk hw; have HG1 := Aside0.mk hg; have HA1 : Aside0 (ArrB w1 ga 103 (List.replicate 32 0)) := ⟨hb⟩; clear hb hw hg)
  | ((with_reducible refine gate_dst (N := 4) rfl ?_); refine alloc_v rfl rfl info103 ?hr ?_; (case hr => rfl); intro go hg w2 hb hw; have HB2 := Aside0.mk (below_step HB1.out hw); have HG2 := Aside0.mk hg; have HA2 := Aside0.mk (HA1.out.below hw); have HO2 : Aside0 (ArrB w2 go 103 (List.replicate 32 0)) := ⟨hb⟩; clear hb hw hg; have c8 := HQ8.out _ HB2.out; have c10 := HQ10.out _ HB2.out)
  | ((with_reducible refine gate_dst (N := 21) rfl ?_); refine new_v (v := fun b => .slice (some ⟨b, 0, none⟩) 0 0) (cells := #[]) (e := 5) rfl ?hr ?_; (case hr => go_simp); intro b3 hg w3 hb hw; have HB3 := Aside0.mk (below_step HB2.out hw); have HA3 := Aside0.mk (HA2.out.below hw); have HO3 := Aside0.mk (HO2.out.below hw); have HE3 : Aside0 ((Kd.int .u8).R 5 w3 w.heap.size (fun _ => True) (.slice (some ⟨b3, 0, none⟩) 0 0) []) := ⟨R_empty hb (by rw [hg]; exact HB2.out.size)⟩; clear hb hw hg; have c8 := HQ8.out _ HB3.out)
  | ((with_reducible refine gate_builtin (b := .append) (xs := #[.tmp 21, .tmp 25]) rfl ?_); at_builtin; refine Kd.R_append_rows (Kd.int .u8) (w0 := w) w.heap.size rfl (.tmp 21) (.tmp 25) 22 5 (.int .u8 0) 1 rfl Tryz.underlying22 infoB5 rfl (by decide) (by decide) _ [] m B m.length cb (fun _ => True) (fun _ => False) rfl rfl HE3.out (Kd.C_below HC.out HB3.out) (fun _ _ h => h) (fun _ hk => hk.elim) (fun _ _ => trivial) HB3.out HB3.out.size (by have := HL.out; simp; omega) ?_; intro v4 w4 ho hb hg hat; have HB4 := Aside0.mk hb; have HR4 : Aside0 ((Kd.int .u8).R 5 w4 w.heap.size (fun _ => True) v4 m) := ⟨ho⟩; have HA4 : Aside0 (ArrB w4 ga 103 (List.replicate 32 0)) := ⟨(hg.block ga (blk_lt HA3.out) (Kd.R_ne HE3.out HA3.out (by decide))).trans HA3.out⟩; have HO4 : Aside0 (ArrB w4 go 103 (List.replicate 32 0)) := ⟨(hg.block go (blk_lt HO3.out) (Kd.R_ne HE3.out HO3.out (by decide))).trans HO3.out⟩; clear ho hb hg hat)
  | ((with_reducible refine gate_dst (N := 27) rfl ?_); refine new_v (v := fun b => .slice (some ⟨b, 0, none⟩) 1 1) (cells := #[.int .u8 128]) (e := 5) rfl ?hr ?_; (case hr => go_simp); intro b5 hg w5 hb hw; have HB5 := Aside0.mk (below_step HB4.out hw); have HA5 := Aside0.mk (HA4.out.below hw); have HO5 := Aside0.mk (HO4.out.below hw); have HR5 := Aside0.mk (Kd.R_below HR4.out hw); have HC5 := Aside0.mk (C_one hb); clear hb hw hg)
  | ((with_reducible refine gate_builtin (b := .append) (xs := #[.tmp 26, .tmp 27]) rfl ?_); at_builtin; refine Kd.R_append_rows (Kd.int .u8) (w0 := w) w.heap.size rfl (.tmp 26) (.tmp 27) 22 5 (.int .u8 0) 1 rfl Tryz.underlying22 infoB5 rfl (by decide) (by decide) _ m [128] (some ⟨b5, 0, none⟩) 1 1 (fun _ => True) (fun _ => False) rfl rfl HR5.out HC5.out (fun _ _ h => h) (fun _ hk => hk.elim) (fun _ _ => trivial) HB5.out HB5.out.size (by have := HL.out; omega) ?_; intro v6 w6 ho hb hg hat; have HB6 := Aside0.mk hb; have HR6 : Aside0 ((Kd.int .u8).R 5 w6 w.heap.size (fun _ => True) v6 (m ++ [128])) := ⟨ho⟩; have HA6 : Aside0 (ArrB w6 ga 103 (List.replicate 32 0)) := ⟨(hg.block ga (blk_lt HA5.out) (Kd.R_ne HR5.out HA5.out (by decide))).trans HA5.out⟩; have HO6 : Aside0 (ArrB w6 go 103 (List.replicate 32 0)) := ⟨(hg.block go (blk_lt HO5.out) (Kd.R_ne HR5.out HO5.out (by decide))).trans HO5.out⟩; clear ho hb hg hat))
 have HGA : Aside0 (w.heap.size ≤ ga ∧ w.heap.size ≤ go ∧ ga ≠ go) := ⟨by have := HG1.out; have := HG2.out; have := HB1.out.size; have := blk_lt HA1.out; omega⟩
 clear HB1 HG1 HA1 HB2 HG2 HA2 HO2 HB3 HA3 HO3 HE3 HB4 HR4 HA4 HO4 HB5 HA5 HO5 HR5 HC5 c8 c10
 go_loopg [5] (padZ m + 1) (fun kq v5 w' => ∃ j : Nat, Aside0 (kq = padZ m + 1 - j ∧ j ≤ padZ m) ∧ Aside0 ((Kd.int .u8).R 5 w' w.heap.size (fun _ => True) v5 (m ++ [128] ++ List.replicate j 0)) ∧ Aside0 (ArrB w' ga 103 (List.replicate 32 0)) ∧ Aside0 (ArrB w' go 103 (List.replicate 32 0)) ∧ Aside0 (Below w.heap.size w w'))
 case atStart => exact ⟨0, ⟨by omega⟩, ⟨by simpa using HR6.out⟩, HA6, HO6, HB6⟩
 case round =>
  obtain ⟨j, HK, HR, HA, HO, HB⟩ := hrel
  clear HR6 HA6 HO6 HB6
  obtain ⟨P, hP⟩ : ∃ P, m ++ [128] ++ List.replicate j 0 = P := ⟨_, rfl⟩
  rw [hP] at HR
  have hPl : P.length = m.length + 1 + j := by rw [← hP]; simp; omega
  have HP := Aside0.mk (show m ++ [128] ++ List.replicate j 0 = P ∧ P.length = m.length + 1 + j from ⟨hP, hPl⟩)
  clear hP hPl
  obtain ⟨A5, c5, hv5, _⟩ := Kd.R_reads HR.out
  subst hv5
  by_cases c1 : (P.length : Int) % 64 = 56
  ·have c1b : ((P.length : Int) % 64 == 56) = true := beq_iff_eq.mpr c1
   have c1c : ((P.length : Int) % 64 != 56) = false := bne_eq_false_iff_eq.mpr c1
   have hj : j = padZ m := by
    have h1 := (padZ_iff m HL.out.2.1 j HK.out.2).1 (by have := HP.out.2; omega)
    exact h1
   clear c1
   go_wp2_with (fail)
   have HPQ := Aside0.mk hj
   clear hj
   go_loopg [5, 6] 9 (fun kq v5 v6 w' => ∃ i : Nat, v6 = .int .i64 (7 - (i : Int)) ∧ Aside0 (kq = 9 - i ∧ i ≤ 8) ∧ Aside0 ((Kd.int .u8).R 5 w' w.heap.size (fun _ => True) v5 (P ++ lenB n i)) ∧ Aside0 (ArrB w' ga 103 (List.replicate 32 0)) ∧ Aside0 (ArrB w' go 103 (List.replicate 32 0)) ∧ Aside0 (Below w.heap.size w w'))
   case atStart => exact ⟨0, by first | rfl | simp, ⟨by omega⟩, ⟨by simpa [lenB] using HR.out⟩, HA, HO, HB⟩
   case round =>
    obtain ⟨i, rfl, HK2, HR2, HA2, HO2, HB2⟩ := hrel
    clear HR HA HO HB
    by_cases c2 : (0 : Int) ≤ 7 - (i : Int)
    ·have c2b : decide ((0 : Int) ≤ 7 - (i : Int)) = true := decide_eq_true c2
     have c2c : decide ((i : Int) ≤ 7) = true := decide_eq_true (by omega)
     have h7 : (i : Int) ≤ 7 := by omega
     have HI : Aside0 (i ≤ 7) := ⟨by omega⟩
     have c9 := HQ9.out _ HB2.out
     have z8 := eq_true (show (0 : Int) ≤ 8 * (7 - (i : Int)) by omega)
     clear c2
     obtain ⟨A5', c5', hv5', _⟩ := Kd.R_reads HR2.out
     subst hv5'
     have HLB := Aside0.mk (lenB_len n i)
     obtain ⟨x, hx⟩ : ∃ x, IntKind.u64.wrap (IntKind.u64.wrap n * 8) / 2 ^ (8 * (7 - i)) % 256 = x := ⟨_, rfl⟩
     have HX := Aside0.mk hx
     go_wp2_with (first
      | ((with_reducible refine gate_dst (N := 51) rfl ?_); refine new_v (v := fun b => .slice (some ⟨b, 0, none⟩) 1 1) (cells := #[.int .u8 x]) (e := 5) rfl ?hr ?_; (case hr => first | (go_simp; done) | (go_simp; rfl)); intro b7 hg w7 hb hw; have HB7 := Aside0.mk (below_step HB2.out hw); have HA7 := Aside0.mk (HA2.out.below hw); have HO7 := Aside0.mk (HO2.out.below hw); have HR7 := Aside0.mk (Kd.R_below HR2.out hw); have HC7 := Aside0.mk (C_one hb); clear hb hw hg)
      | ((with_reducible refine gate_builtin (b := .append) (xs := #[.tmp 40, .tmp 51]) rfl ?_); at_builtin; refine Kd.R_append_rows (Kd.int .u8) (w0 := w) w.heap.size rfl (.tmp 40) (.tmp 51) 22 5 (.int .u8 0) 1 rfl Tryz.underlying22 infoB5 rfl (by decide) (by decide) _ (P ++ lenB n i) [x] (some ⟨b7, 0, none⟩) 1 1 (fun _ => True) (fun _ => False) rfl rfl HR7.out HC7.out (fun _ _ h => h) (fun _ hk => hk.elim) (fun _ _ => trivial) HB7.out HB7.out.size (by rw [List.length_append, HLB.out]; have := HP.out.2; have := HL.out; have := HPQ.out; have := HI.out; have : padZ m ≤ 119 := (by unfold padZ; split <;> omega); omega) ?_; intro v8 w8 ho hb hg hat; have HB8 := Aside0.mk hb; have HR8 : Aside0 ((Kd.int .u8).R 5 w8 w.heap.size (fun _ => True) v8 (P ++ lenB n i ++ [x])) := ⟨ho⟩; have HA8 : Aside0 (ArrB w8 ga 103 (List.replicate 32 0)) := ⟨(hg.block ga (blk_lt HA7.out) (Kd.R_ne HR7.out HA7.out (by decide))).trans HA7.out⟩; have HO8 : Aside0 (ArrB w8 go 103 (List.replicate 32 0)) := ⟨(hg.block go (blk_lt HO7.out) (Kd.R_ne HR7.out HO7.out (by decide))).trans HO7.out⟩; clear ho hb hg hat))
     go_roundg (gk - 1)
     case measure => have := HK2.out; have := HI.out; omega
     case rel =>
      refine ⟨i + 1, ?_, ⟨by have := HK2.out; have := HI.out; omega⟩, ⟨by rw [lenB, HX.out, ← List.append_assoc]; exact HR8.out⟩, HA8, HO8, HB8⟩
      first
      | rfl
      | (have := HI.out; congr 1; unfold wrap64; omega)
      | (have := HI.out; congr 1; omega)
    ·have hi : i = 8 := by have := HK2.out; omega
     have c2b : decide ((0 : Int) ≤ 7 - (i : Int)) = false := decide_eq_false c2
     clear c2
     subst hi
     have hlast : P ++ lenB n 8 = lastB m n := by rw [← HP.out.1, HPQ.out]; rfl
     rw [hlast] at HR2
     obtain ⟨A6, c6, hv6, hc6, hC6⟩ := Kd.R_reads HR2.out
     subst hv6
     have HC6 := Aside0.mk hC6
     have HC6' := Aside0.mk hc6
     have HN6 : Aside0 (∀ b cs t, t ≠ 5 → wr.heap[b]? = some (.cells cs t (0, 0)) → ∀ ad, A6 = some ad → ad.block ≠ b) := ⟨by
      intro b cs t ht hb ad e h
      exact Kd.R_ne HR2.out hb (fun e => ht e.symm) (by rw [e]; simp [Value.ownBlock, h])⟩
     clear hC6 hc6 hlast
     have c2c : decide ((8 : Int) ≤ 7) = false := by decide
     have HSW : Aside0 (wr.heap[g]? = some (.cells (shaC S (.slice B m.length cb) n).toArray 166 (0, 0))) := ⟨(HB2.out.block g (blk_lt HS.out)).trans HS.out⟩
     go_wp2_with (first
      | ((with_reducible refine gate_dst (N := 56) rfl ?_); refine wpList_load_mid rfl 163 (.tmp 55) rfl g 0 rfl (S.map (Value.int .u32)) _ (fun j v hv => by have hj := (List.getElem?_eq_some_iff.1 hv).1; rw [Nat.zero_add, blk_cell HSW.out j]; simp only [shaC, List.getElem?_toArray]; rw [List.getElem?_append_left hj]; exact hv) Tryz.underlying163 rfl (by rw [List.length_map, HL.out.2.2.1]; exact size163) ?_)
      | ((with_reducible refine gate_dst (N := 7) rfl ?_); refine alloc_v rfl rfl info163 ?hr ?_; (case hr => rfl); intro gv hg w9 hb hw; have HB9 := Aside0.mk (below_step HB2.out hw); have HW9 := Aside0.mk hw; have HG9 := Aside0.mk hg; have HA9 := Aside0.mk (HA2.out.below hw); have HO9 := Aside0.mk (HO2.out.below hw); have HC9 := Aside0.mk (Kd.C_below HC6.out hw); have HV9 : Aside0 (ArrU w9 gv 163 (List.replicate 8 0)) := ⟨hb⟩; clear hb hw hg)
      | (refine store_row (t := 163) (e := 163) (g := gv) (cells := u32s S) rfl rfl rfl rfl rfl HV9.out (by rw [u32s_size, HL.out.2.2.1]; exact size163) (by rw [u32s_size, u32s_size, HL.out.2.2.1]; rfl) (u32s_one _) ?_; intro w10 hb hf; have HV10 : Aside0 (ArrU w10 gv 163 S) := ⟨hb⟩; have HF10 := Aside0.mk hf; clear hb hf))
     have HGV : Aside0 (w.heap.size ≤ gv ∧ ga ≠ gv ∧ go ≠ gv ∧ ∀ ad, A6 = some ad → 0 < (lastB m n).length → ad.block ≠ gv) := ⟨by
      have h9 := HG9.out
      have := blk_lt HA2.out
      have := blk_lt HO2.out
      have := HB2.out.size
      refine ⟨by omega, by omega, by omega, fun ad e h0 h => ?_⟩
      have hlt := Kd.R_lt HR2.out ad.block (by rw [e]; rfl)
      omega⟩
     have HA10 := Aside0.mk (HA9.out.fr HF10.out HGV.out.2.1)
     have HO10 := Aside0.mk (HO9.out.fr HF10.out HGV.out.2.2.1)
     have HC10 := Aside0.mk (C_fr HC9.out HF10.out HGV.out.2.2.2)
     have HB10 := Aside0.mk (HB9.out.trans (HF10.out.belowB HB9.out.size (fun k e => by rw [e]; exact HGV.out.1)))
     clear HA9 HO9 HC9 HB9 HF10 HV9 HG9 HW9 HSW HA2 HO2 HB2 HR2 HC6
     (try simp only [Act.put, List.setIfInBounds_toArray, List.set_cons_zero, List.set_cons_succ])
     go_loopg [5] ((lastB m n).length + 1) (fun kq v5 w' => ∃ (D : Option Addr) (cd : Nat) (r V : List Int), v5 = .slice D r.length cd ∧ Aside0 (kq = r.length + 1 ∧ r.length ≤ cd ∧ r.length % 64 = 0 ∧ r.length ≤ 128 ∧ V.length = 8) ∧ Aside0 (absorb V r = absorb S (lastB m n)) ∧ Aside0 ((Kd.int .u8).C w' D r.length r) ∧ Aside0 (∀ ad, D = some ad → 0 < r.length → ad.block ≠ gv) ∧ Aside0 (ArrU w' gv 163 V) ∧ Aside0 (ArrB w' ga 103 (List.replicate 32 0)) ∧ Aside0 (ArrB w' go 103 (List.replicate 32 0)) ∧ Aside0 (Below w.heap.size w w'))
     case atStart => exact ⟨A6, c6, lastB m n, S, by first | rfl | simp, ⟨by have := lastB_len m n HL.out.2.1; have := HC6'.out; have := HL.out; omega⟩, ⟨rfl⟩, HC10, ⟨HGV.out.2.2.2⟩, HV10, HA10, HO10, HB10⟩
     case round =>
      obtain ⟨D, cd, r, V, rfl, HK3, HAB, HCR, HNR, HVR, HA3, HO3, HB3⟩ := hrel
      clear HC10 HV10 HA10 HO10 HB10
      by_cases c3 : (0 : Int) < (r.length : Int)
      ·have c3b : decide ((0 : Int) < (r.length : Int)) = true := decide_eq_true c3
       have c3c : decide (0 < r.length) = true := decide_eq_true (by omega)
       have HM64 : Aside0 (64 ≤ r.length) := ⟨by have := HK3.out; omega⟩
       have HGE := eq_true (show (64 : Int) ≤ (r.length : Int) by have := HM64.out; omega)
       clear c3
       obtain ⟨a0, a1, a2, a3, a4, a5, a6, a7, hV⟩ : ∃ a0 a1 a2 a3 a4 a5 a6 a7, V = [a0, a1, a2, a3, a4, a5, a6, a7] := by
        have hl := HK3.out.2.2.2.2
        match V, hl with
        | [a0, a1, a2, a3, a4, a5, a6, a7], _ => exact ⟨a0, a1, a2, a3, a4, a5, a6, a7, rfl⟩
       subst hV
       obtain ⟨j5, hj5, hs5⟩ := info5
       obtain ⟨T, hT⟩ : ∃ T, T = r.take 64 := ⟨_, rfl⟩
       have hTl : T.length = 64 := by rw [hT, List.length_take]; have := HM64.out; omega
       have hcut : ∀ W : World, (Instr.slice 22 (.slice D r.length cd) none (some (.int .i64 64)) none).run Tryz.prog W = .ok (.slice D T.length cd) W := by
        intro W
        rw [cut_to 22 5 .i64 Tryz.underlying22 hj5 D r.length cd 64 (by decide) (by have := HM64.out; omega) HK3.out.2.1 W, hTl]
        rfl
       obtain ⟨D', hD'⟩ : ∃ D', D' = (if cd = 64 then D else D.map (·.add (64 * 1))) := ⟨_, rfl⟩
       obtain ⟨r', hr'⟩ : ∃ r', r' = r.drop 64 := ⟨_, rfl⟩
       have hrl : r'.length = r.length - 64 := by rw [hr', List.length_drop]
       have hcut2 : ∀ W : World, (Instr.slice 22 (.slice D r.length cd) (some (.int .i64 64)) none none).run Tryz.prog W = .ok (.slice D' r'.length (cd - 64)) W := by
        intro W
        rw [cut_from 22 5 .i64 Tryz.underlying22 hj5 1 hs5 D r.length cd 64 (by decide) (by have := HM64.out; omega) W, hD', hrl]
        rfl
       have HTD := Aside0.mk (show T = r.take 64 ∧ T.length = 64 ∧ r' = r.drop 64 ∧ r'.length = r.length - 64 from ⟨hT, hTl, hr', hrl⟩)
       have HDD := Aside0.mk hD'
       clear hj5 hs5 hT hTl hr' hrl hD'
       obtain ⟨X, hX⟩ : ∃ X, mixV [a0, a1, a2, a3, a4, a5, a6, a7] T = X := ⟨_, rfl⟩
       have HXL : Aside0 (X.length = 8) := ⟨by rw [← hX]; exact mixV_len _ _ rfl⟩
       have HX := Aside0.mk hX
       clear hX
       try go_wp2
       have HV_a : Aside0 (ArrU wr.drew gv 163 [a0, a1, a2, a3, a4, a5, a6, a7]) := ⟨HVR.out⟩
       have HC_a : Aside0 ((Kd.int .u8).C wr.drew D r.length r) := ⟨Kd.C_drew HCR.out⟩
       have HA_a : Aside0 (ArrB wr.drew ga 103 (List.replicate 32 0)) := ⟨HA3.out⟩
       have HO_a : Aside0 (ArrB wr.drew go 103 (List.replicate 32 0)) := ⟨HO3.out⟩
       have HB_a := Aside0.mk (below_drew HB3.out)
       refine start_ (n := 5) (S := fun w' => w'.cell? ⟨gv, 0, none⟩ = some (.int .u32 a0) ∧ w'.cell? ⟨gv, 1, none⟩ = some (.int .u32 a1) ∧ w'.cell? ⟨gv, 2, none⟩ = some (.int .u32 a2) ∧ w'.cell? ⟨gv, 3, none⟩ = some (.int .u32 a3) ∧ w'.cell? ⟨gv, 4, none⟩ = some (.int .u32 a4) ∧ w'.cell? ⟨gv, 5, none⟩ = some (.int .u32 a5) ∧ w'.cell? ⟨gv, 6, none⟩ = some (.int .u32 a6) ∧ w'.cell? ⟨gv, 7, none⟩ = some (.int .u32 a7)) (ds := [4]) #[false, false, false, false, false] (by kernel_rfl) rfl rfl ⟨(HV_a.out.cell 0 (by simp)), (HV_a.out.cell 1 (by simp)), (HV_a.out.cell 2 (by simp)), (HV_a.out.cell 3 (by simp)), (HV_a.out.cell 4 (by simp)), (HV_a.out.cell 5 (by simp)), (HV_a.out.cell 6 (by simp)), (HV_a.out.cell 7 (by simp))⟩ (fun hHeld => ?_)
       refine with_tabW S_sum.tab13 S_sum.bits13 (fun HT_ HW_ => ?_)
       generalize wr.drew = y6 at HV_a HC_a HA_a HO_a HB_a hHeld ⊢
       refine pure_ (i := 1) (N := some 61) (v := ?_) (a' := ?_) #[false, true, false, false, false] rfl rfl (any_of HT_.out (by kernel_rfl)) (fun _ _ _ h => h) (Or.inl ⟨by rfl, ?_⟩) ?_ ?_
       rotate_left
       ·intro w'
        go_simp
        with_reducible rfl
       rotate_left
       ·simp only [Act.put, List.setIfInBounds_toArray, List.set_cons_zero, List.set_cons_succ, i64_w, i32_w]
        rfl
       refine pure_ (i := 2) (N := some 62) (v := ?_) (a' := ?_) #[false, true, true, false, false] rfl rfl (any_of HT_.out (by kernel_rfl)) (fun _ _ _ h => h) (Or.inl ⟨by rfl, ?_⟩) ?_ ?_
       rotate_left
       ·intro w'
        go_simp
        with_reducible rfl
       rotate_left
       ·simp only [Act.put, List.setIfInBounds_toArray, List.set_cons_zero, List.set_cons_succ, i64_w, i32_w]
        rfl
       refine take_ (i := 0) (N := some 60) (v := ?_) (a' := ?_) #[true, true, true, false, false] rfl rfl (take_ofW HT_.out HW_.out (by kernel_rfl)) (fun _ _ _ h => h) (Or.inl ⟨by rfl, ?_⟩) hHeld ?_ ?_
       rotate_left
       ·rintro w' ⟨s0, s1, s2, s3, s4, s5, s6, s7⟩
        go_simp
        with_reducible rfl
       rotate_left
       ·simp only [Act.put, List.setIfInBounds_toArray, List.set_cons_zero, List.set_cons_succ, i64_w, i32_w]
        rfl
       refine one_ (i := 3) (N := some 63) #[true, true, true, true, false] rfl rfl (one_of HT_.out (by kernel_rfl)) (by decide) (fun K hK => ?_)
       refine goes_ Tryz.func71 (by kernel_rfl) rfl #[.agg (u32s [a0, a1, a2, a3, a4, a5, a6, a7]), .slice D T.length cd] (by rfl) rfl rfl (by simp only [List.map_toArray, List.map_cons, List.map_nil]; rfl) ?_
       with_reducible refine (mix_calls [a0, a1, a2, a3, a4, a5, a6, a7] T rfl D cd _ (by rw [HTD.out.1]; exact Kd.C_take HC_a.out (by have := HM64.out; omega)) (by rw [HTD.out.2.1]; exact Nat.le_refl _) (by rw [HTD.out.2.1]; have := HK3.out; have := HM64.out; omega)).mono ?_
       rw [HX.out]
       rintro e y7 ⟨rfl, hb⟩
       refine ⟨_, rfl, ?_⟩
       have HV_b := Aside0.mk (HV_a.out.below hb)
       have HC_b := Aside0.mk (Kd.C_below HC_a.out hb)
       have HA_b := Aside0.mk (HA_a.out.below hb)
       have HO_b := Aside0.mk (HO_a.out.below hb)
       have HB_b := Aside0.mk (below_step HB_a.out hb)
       clear hb
       refine hK.out _ _ ⟨(HV_b.out.cell 0 (by simp)), (HV_b.out.cell 1 (by simp)), (HV_b.out.cell 2 (by simp)), (HV_b.out.cell 3 (by simp)), (HV_b.out.cell 4 (by simp)), (HV_b.out.cell 5 (by simp)), (HV_b.out.cell 6 (by simp)), (HV_b.out.cell 7 (by simp))⟩ (fun hHeld => ?_)
       clear hK K
       refine norm_ (a' := ?_) ?_ ?_
       rotate_left
       ·show Act.put _ (some 63) _ = _
        simp only [Act.put, List.setIfInBounds_toArray, List.set_cons_zero, List.set_cons_succ, i64_w, i32_w]
        rfl
       refine last_ (i := 4) (N := none) #[true, true, true, true, true] rfl rfl (one_of HT_.out (by kernel_rfl)) (by decide) (fun K hK => ?_)
       refine store_part_step (t := 163) (e := 163) (g := gv) (off := 0) (cur := ([a0, a1, a2, a3, a4, a5, a6, a7].map (Value.int .u32))) (cells := u32s X) rfl rfl rfl rfl rfl HV_b.out (by rw [u32s_size, HXL.out]; exact size163) (by rw [u32s_size, HXL.out]; simp) (u32s_one _) ?_
       intro y8 hb hf
       have HV_c : Aside0 (ArrU y8 gv 163 X) := ⟨by rw [ArrU, hb]; simp [splice, u32s, HXL.out]⟩
       have HC_c := Aside0.mk (C_fr HC_b.out hf HNR.out)
       have HA_c := Aside0.mk (HA_b.out.fr hf HGV.out.2.1)
       have HO_c := Aside0.mk (HO_b.out.fr hf HGV.out.2.2.1)
       have HB_c := Aside0.mk (HB_b.out.trans (hf.belowB HB_b.out.size (fun k e => by rw [e]; exact HGV.out.1)))
       clear hb hf
       refine hK.out _ _ ?_
       clear hK K
       refine done_ (done_of HT_.out (by kernel_rfl)) ?_

       go_wp2
       go_roundg (r'.length + 1)
       case measure => have := HK3.out; have := HM64.out; have := HTD.out.2.2.2; omega
       case rel =>
        refine ⟨D', cd - 64, r', X, by first | rfl | simp, ⟨by have := HK3.out; have := HM64.out; have := HTD.out.2.2.2; have := HXL.out; omega⟩, ⟨?_⟩, ⟨?_⟩, ⟨?_⟩, HV_c, HA_c, HO_c, HB_c⟩
        ·have h := HAB.out
         rw [absorb_step _ _ HM64.out, ← HTD.out.1, ← HTD.out.2.2.1, HX.out] at h
         exact h
        ·rw [HTD.out.2.2.1, HDD.out]
         exact Kd.C_drop HC_c.out HM64.out HK3.out.2.1
        ·intro ad e hn
         rw [HDD.out] at e
         have hm := HM64.out
         have hd := HTD.out.2.2.2
         rw [if_neg (by have := HK3.out; omega)] at e
         cases hB : D with
         | none => rw [hB] at e; cases e
         | some b =>
          rw [hB] at e
          injection e with e
          rw [← e, add_block]
          exact HNR.out b hB (by omega)
      ·have hr0 : r = [] := List.eq_nil_of_length_eq_zero (by omega)
       have c3b : decide ((0 : Int) < (r.length : Int)) = false := decide_eq_false c3
       have c3c : decide (0 < r.length) = false := decide_eq_false (by omega)
       have HAE : Aside0 ((V, ([] : List Int)) = absorb S (lastB m n)) := ⟨by rw [← HAB.out, hr0]; exact (absorb_end V [] (by simp)).symm⟩
       clear c3 hr0
       go_wp2_with (first
        | ((with_reducible refine gate_dst (N := 66) rfl ?_); refine wpList_load_row rfl 163 (.tmp 7) rfl gv rfl 163 (u32s V) (0, 0) _ HVR.out Tryz.underlying163 rfl (by rw [u32s_size, HK3.out.2.2.2.2]; exact size163) ?_))
       (try simp only [Act.put, List.setIfInBounds_toArray, List.set_cons_zero, List.set_cons_succ])
       go_loopg [67] 9 (fun kq v67 w' => ∃ i : Nat, v67 = .int .i64 (i : Int) ∧ Aside0 (kq = 9 - i ∧ i ≤ 8) ∧ Aside0 (ArrB w' ga 103 (List.replicate 32 0)) ∧ Aside0 (ArrB w' go 103 (outB V (4 * i))) ∧ Aside0 (Below w.heap.size w w'))
       case atStart => exact ⟨0, by first | rfl | simp, ⟨by omega⟩, HA3, ⟨by rw [outB_zero]; exact HO3.out⟩, HB3⟩
       case round =>
        obtain ⟨i, rfl, HK4, HA4, HO4, HB4⟩ := hrel
        by_cases c4 : (i : Int) < 8
        ·have c4b : decide ((i : Int) < 8) = true := decide_eq_true c4
         have c4c : decide (i < 8) = true := decide_eq_true (by omega)
         have HI4 : Aside0 (i < 8) := ⟨by omega⟩
         have h0 : (0 : Int) ≤ (i : Int) := by omega
         have h8 := c4
         have hidx : ∀ W : World, (Instr.index 163 (.agg (u32s V)) (.int .i64 (i : Int))).run Tryz.prog W = .ok (.int .u32 (V.getD i 0)) W := by
          intro W
          exact index_u32 V HK3.out.2.2.2.2 i HI4.out W
         clear c4
         obtain ⟨x, hx⟩ : ∃ x, V.getD i 0 = x := ⟨_, rfl⟩
         rw [hx] at hidx
         have HX4 := Aside0.mk hx
         clear hx
         go_wp2_with (fail)
         go_loopg [71] 5 (fun kq v71 w' => ∃ k : Nat, v71 = .int .i64 (k : Int) ∧ Aside0 (kq = 5 - k ∧ k ≤ 4) ∧ Aside0 (ArrB w' ga 103 (List.replicate 32 0)) ∧ Aside0 (ArrB w' go 103 (outB V (4 * i + k))) ∧ Aside0 (Below w.heap.size w w'))
         case atStart => exact ⟨0, by first | rfl | simp, ⟨by omega⟩, HA4, HO4, HB4⟩
         case round =>
          obtain ⟨k, rfl, HK5, HA5, HO5, HB5⟩ := hrel
          clear HA4 HO4 HB4
          by_cases c5 : (k : Int) < 4
          ·have c5b : decide ((k : Int) < 4) = true := decide_eq_true c5
           have c5c : decide (k < 4) = true := decide_eq_true (by omega)
           have HK6 : Aside0 (k < 4) := ⟨by omega⟩
           have k0 : (0 : Int) ≤ (k : Int) := by omega
           have hcs := HO5.out.cell (4 * i + k) (by rw [outB_len]; have := HI4.out; omega)
           have hfs := HO5.out.frozen (4 * i + k)
           go_wp2_with (fail)
           go_roundg (gk - 1)
           case measure => have := HK5.out; have := HK6.out; omega
           case rel =>
            refine ⟨k + 1, ?_, ⟨by have := HK5.out; have := HK6.out; omega⟩, ⟨HA5.out.fr ((Fr.refl wr (fun k => k = go)).setCell (p := ⟨go, 4 * i + k, none⟩) (.inl rfl) _) HGA.out.2.2⟩, ⟨?_⟩, ⟨HB5.out.setCell (p := ⟨go, 4 * i + k, none⟩) HGA.out.2.1 _⟩⟩
            ·first
             | rfl
             | (have := HK6.out; congr 1; unfold wrap64; omega)
            ·have hfin := HO5.out.set (4 * i + k) (x / 2 ^ (24 - 8 * k) % 256)
             have hs := outB_set V (4 * i + k) (by have := HI4.out; have := HK6.out; omega)
             rw [show (4 * i + k) / 4 = i by have := HK6.out; omega, show (4 * i + k) % 4 = k by have := HK6.out; omega, HX4.out] at hs
             rw [hs] at hfin
             exact hfin
          ·have hk : k = 4 := by have := HK5.out; omega
           have c5b : decide ((k : Int) < 4) = false := decide_eq_false c5
           have c5c : decide (k < 4) = false := decide_eq_false (by omega)
           clear c5
           subst hk
           go_wp2_with (fail)
           go_roundg (8 - i)
           case measure => have := HK4.out; have := HI4.out; omega
           case rel =>
            refine ⟨i + 1, ?_, ⟨by have := HK4.out; have := HI4.out; omega⟩, HA5, ⟨by rw [show 4 * (i + 1) = 4 * i + 4 by omega]; exact HO5.out⟩, HB5⟩
            first
            | rfl
            | (have := HI4.out; congr 1; unfold wrap64; omega)
        ·have hi8 : i = 8 := by have := HK4.out; omega
         have c4b : decide ((i : Int) < 8) = false := decide_eq_false c4
         have c4c : decide (i < 8) = false := decide_eq_false (by omega)
         clear c4
         subst hi8
         go_wp2_with (first
          | ((with_reducible refine gate_dst (N := 87) rfl ?_); refine wpList_load_row rfl 103 (.tmp 4) rfl go rfl 103 (u8s (outB V 32)) (0, 0) _ HO4.out Tryz.underlying103 rfl (by rw [u8s_size, outB_len]; exact size103) ?_)
          | (refine store_row (t := 103) (e := 103) (g := ga) (cells := u8s (outB V 32)) rfl rfl rfl rfl rfl HA4.out (by rw [u8s_size, outB_len]; exact size103) (by rw [u8s_size, u8s_size, outB_len]; rfl) (u8s_one _) ?_; intro wz hb hf; have HZ : Aside0 (ArrB wz ga 103 (outB V 32)) := ⟨hb⟩; have HFZ := Aside0.mk hf; clear hb hf))
         refine bodyPost_ret (results_ct rfl _ _ ga 103 (u8s (outB V 32)) (0, 0) _ rfl HZ.out Tryz.underlying103 rfl (by rw [u8s_size, outB_len]; exact size103)) rfl ?_
         have hv : outB V 32 = sumV S m n := by unfold sumV; rw [← HAE.out]
         exact ⟨by rw [hv]; rfl, HB4.out.trans (HFZ.out.belowB HB4.out.size (fun k e => by rw [e]; exact HGA.out.1))⟩
  ·have c1b : ((P.length : Int) % 64 == 56) = false := beq_eq_false_iff_ne.mpr c1
   have c1c : ((P.length : Int) % 64 != 56) = true := bne_iff_ne.mpr c1
   have hj : j < padZ m := by
    have h1 := padZ_iff m HL.out.2.1 j HK.out.2
    have h2 : ¬ (m.length + 1 + j) % 64 = 56 := by have := HP.out.2; omega
    have h3 : ¬ j = padZ m := fun e => h2 (h1.2 e)
    have := HK.out
    omega
   have HJ := Aside0.mk hj
   clear c1 hj
   go_wp2_with (first
    | ((with_reducible refine gate_dst (N := 34) rfl ?_); refine new_v (v := fun b => .slice (some ⟨b, 0, none⟩) 1 1) (cells := #[.int .u8 0]) (e := 5) rfl ?hr ?_; (case hr => go_simp); intro b7 hg w7 hb hw; have HB7 := Aside0.mk (below_step HB.out hw); have HA7 := Aside0.mk (HA.out.below hw); have HO7 := Aside0.mk (HO.out.below hw); have HR7 := Aside0.mk (Kd.R_below HR.out hw); have HC7 := Aside0.mk (C_one hb); clear hb hw hg)
    | ((with_reducible refine gate_builtin (b := .append) (xs := #[.tmp 33, .tmp 34]) rfl ?_); at_builtin; refine Kd.R_append_rows (Kd.int .u8) (w0 := w) w.heap.size rfl (.tmp 33) (.tmp 34) 22 5 (.int .u8 0) 1 rfl Tryz.underlying22 infoB5 rfl (by decide) (by decide) _ P [0] (some ⟨b7, 0, none⟩) 1 1 (fun _ => True) (fun _ => False) rfl rfl HR7.out HC7.out (fun _ _ h => h) (fun _ hk => hk.elim) (fun _ _ => trivial) HB7.out HB7.out.size (by have := HP.out.2; have := HL.out; have := HJ.out; have : padZ m ≤ 119 := (by unfold padZ; split <;> omega); omega) ?_; intro v8 w8 ho hb hg hat; have HB8 := Aside0.mk hb; have HR8 : Aside0 ((Kd.int .u8).R 5 w8 w.heap.size (fun _ => True) v8 (P ++ [0])) := ⟨ho⟩; have HA8 : Aside0 (ArrB w8 ga 103 (List.replicate 32 0)) := ⟨(hg.block ga (blk_lt HA7.out) (Kd.R_ne HR7.out HA7.out (by decide))).trans HA7.out⟩; have HO8 : Aside0 (ArrB w8 go 103 (List.replicate 32 0)) := ⟨(hg.block go (blk_lt HO7.out) (Kd.R_ne HR7.out HO7.out (by decide))).trans HO7.out⟩; clear ho hb hg hat))
   go_roundg (gk - 1)
   case measure => have := HK.out; have := HJ.out; omega
   case rel => exact ⟨j + 1, ⟨by have := HK.out; have := HJ.out; omega⟩, ⟨by rw [List.replicate_succ', ← List.append_assoc, HP.out.1]; exact HR8.out⟩, HA8, HO8, HB8⟩
end Go.Proofs.YteadamkkbgnpeaaGreat.S
end OfS5
section OfS6
set_option linter.unusedVariables false
set_option linter.unusedSimpArgs false
namespace Go.Proofs.YteadamkkbgnpeaaGreat.S
open Go.RowKit YteadamkkbgnpeaaGreatW.PrintLast B QTC YteadamkkbgnpeaaGreatW.PrintWords YteadamkkbgnpeaaGreatW.PrintMore
theorem absorb_len : ∀ (n : Nat) (S l : List Int), l.length / 64 = n → S.length = 8 → (absorb S l).1.length = 8 ∧ (absorb S l).2.length < 64
 | 0, S, l, h, hS => by rw [absorb_end S l (by omega)]; exact ⟨hS, by show l.length < 64; omega⟩
 | n + 1, S, l, h, hS => by
  rw [absorb_step S l (by omega)]
  exact absorb_len n _ _ (by rw [List.length_drop]; omega) (mixV_len S _ hS)
/-- The sum of bytes. -/
def shaV (l : List Int) : List Int := sumV (absorb H0 l).1 (absorb H0 l).2 l.length
theorem shaV_len (l : List Int) : (shaV l).length = 32 := sumV_len _ _ _
set_option maxHeartbeats 8000000 in
set_option maxRecDepth 100000 in
theorem of_calls (l : List Int) (A : Option Addr) (c b0 : Nat) (w : World) (hb0 : w.heap[b0]? = some (.cells #[.slice A l.length c] 22 (0, 0))) (hr : (Kd.int .u8).C w A l.length l) (hc : l.length ≤ c) (hl : l.length ≤ 100000) :
  Calls Tryz.prog 54 #[.slice (some ⟨b0, 0, none⟩) 1 1] w fun e w' => e = .returned (.agg (u8s (shaV l))) ∧ Below w.heap.size w w' := by
 have HB0 := Aside0.mk hb0
 have HC := Aside0.mk hr
 have HL := Aside0.mk (show l.length ≤ c ∧ l.length ≤ 100000 from ⟨hc, hl⟩)
 clear hb0 hr hc hl
 go_enter Tryz.func54, Tryz.ntmps54
 go_wp2_with (first
  | ((with_reducible refine gate_dst (N := 2) rfl ?_); refine alloc_v rfl rfl info103 ?hr ?_; (case hr => rfl); intro ga hg w1 hb hw; have HB1 := Aside0.mk hw; have HG1 := Aside0.mk hg; have HA1 : Aside0 (ArrB w1 ga 103 (List.replicate 32 0)) := ⟨hb⟩; clear hb hw hg)
  | (go_at_call 63; refine (new_calls _).mono ?_; rintro e w2 ⟨g, rfl, hg, hs, hw⟩; have HB2 := Aside0.mk (below_step HB1.out hw); have HA2 := Aside0.mk (HA1.out.below hw); have HS2 := Aside0.mk hs; have HG2 : Aside0 (w.heap.size ≤ g ∧ w.heap.size ≤ ga ∧ g ≠ ga) := ⟨by have := HB1.out.size; have := blk_lt HA1.out; have := HG1.out; omega⟩; clear hs hg hw))
 go_loopg [11] 2 (fun kq v11 w' => ∃ i : Nat, v11 = .int .i64 (i : Int) ∧ Aside0 (kq = 2 - i ∧ i ≤ 1) ∧ Aside0 ((i = 0 ∧ ShaAt w' g H0 (.slice none 0 0) 0) ∨ (i = 1 ∧ ∃ v, ShaAt w' g (absorb H0 l).1 v l.length ∧ (Kd.int .u8).R 5 w' (g + 1) (fun _ => True) v (absorb H0 l).2)) ∧ Aside0 (ArrB w' ga 103 (List.replicate 32 0)) ∧ Aside0 (Below w.heap.size w w'))
 case atStart => exact ⟨0, by first | rfl | simp, ⟨by omega⟩, ⟨.inl ⟨rfl, HS2.out⟩⟩, HA2, HB2⟩
 case round =>
  obtain ⟨i, rfl, HK, HI, HA, HB⟩ := hrel
  clear HB1 HG1 HA1 HB2 HA2 HS2
  rcases HI.out with ⟨hi, hs⟩ | ⟨hi, v, hs, ho⟩
  ·subst hi
   have HS := Aside0.mk hs
   clear hs HI
   have hcell : wr.cell? ⟨b0, 0, none⟩ = some (.slice A l.length c) := by
    rw [blk_cell ((HB.out.block b0 (blk_lt HB0.out)).trans HB0.out) 0]; rfl
   go_wp2_with (first
    | (go_at_call 64; (with_reducible refine (add_calls g l A c _ HS.out (Kd.C_below HC.out HB.out) HL.out.1 HL.out.2 ?hfar).mono ?_); (case hfar => (intro ad e hn h; obtain ⟨ad', e', hcc⟩ := HC.out.2.2 hn; rw [e] at e'; injection e' with e'; subst e'; obtain ⟨cs, h1, h2, h3⟩ := hcc 0 _ (List.getElem?_eq_getElem hn); obtain rfl : cs = [.int .u8 l[0]] := h2; have h5 := World.block_lt_of_cell? w _ (h3 0 _ rfl); rw [add_block, h] at h5; have := HG2.out; omega)); rintro e w5 ⟨rfl, hf, v, hs, ho⟩; have HS5 := Aside0.mk hs; have HO5 := Aside0.mk ho; have HF5 := Aside0.mk hf; have HA5 := Aside0.mk (HA.out.fr hf (fun e => HG2.out.2.2 e.symm)); have HB5 := Aside0.mk (HB.out.trans (hf.belowB HB.out.size (fun k e => by rw [e]; exact HG2.out.1))); clear hs ho hf))
   go_roundg 1
   case measure => have := HK.out; omega
   case rel => exact ⟨1, by first | rfl | simp, ⟨by omega⟩, ⟨.inr ⟨rfl, v, HS5.out, Kd.R_lower HO5.out (by have := blk_lt HS.out; omega)⟩⟩, HA5, HB5⟩
  ·subst hi
   have HS := Aside0.mk hs
   have HO := Aside0.mk ho
   clear hs ho HI
   obtain ⟨B, cb, hv, hcb, hC⟩ := Kd.R_reads HO.out
   subst hv
   have HC3 := Aside0.mk hC
   have hal := absorb_len _ H0 l rfl rfl
   have HAL := Aside0.mk hal
   have HCB := Aside0.mk hcb
   clear hC hal hcb
   go_wp2_with (first
    | (go_at_call 65; (with_reducible refine (sum_calls g (absorb H0 l).1 (absorb H0 l).2 HAL.out.1 B cb l.length _ HS.out HC3.out HCB.out HAL.out.2 ?hn).mono ?_); (case hn => (have := HL.out; omega)); rintro e w6 ⟨rfl, hw⟩; have HB6 := Aside0.mk (below_step HB.out hw); have HA6 := Aside0.mk (HA.out.below hw); clear hw)
    | ((with_reducible refine gate_dst (N := 6) rfl ?_); refine alloc_v rfl rfl info103 ?hr ?_; (case hr => rfl); intro gx hg w7 hb hw; have HB7 := Aside0.mk (below_step HB6.out hw); have HX7 : Aside0 (ArrB w7 gx 103 (List.replicate 32 0)) := ⟨hb⟩; have HA7 := Aside0.mk (HA6.out.below hw); have HGX : Aside0 (gx ≠ ga ∧ w.heap.size ≤ gx) := ⟨by have := blk_lt HA6.out; have := HB6.out.size; omega⟩; clear hb hw hg)
    | ((with_reducible refine gate_dst (N := 24) rfl ?_); refine wpList_load_row rfl 103 (.tmp 6) rfl gx rfl 103 (u8s (shaV l)) (0, 0) _ HX8.out Tryz.underlying103 rfl (by rw [u8s_size, shaV_len]; exact size103) ?_)
    | (refine store_row (t := 103) (e := 103) (g := gx) (cells := u8s (shaV l)) rfl rfl rfl rfl rfl HX7.out (by rw [u8s_size, shaV_len]; exact size103) (by rw [u8s_size, u8s_size, shaV_len]; rfl) (u8s_one _) ?_; intro w8 hb hf; have HX8 : Aside0 (ArrB w8 gx 103 (shaV l)) := ⟨hb⟩; have HA8 := Aside0.mk (HA7.out.fr hf (fun e => HGX.out.1 e.symm)); have HB8 := Aside0.mk (HB7.out.trans (hf.belowB HB7.out.size (fun k e => by rw [e]; exact HGX.out.2))); clear hb hf)
    | (refine store_row (t := 103) (e := 103) (g := ga) (cells := u8s (shaV l)) rfl rfl rfl rfl rfl HA8.out (by rw [u8s_size, shaV_len]; exact size103) (by rw [u8s_size, u8s_size, shaV_len]; rfl) (u8s_one _) ?_; intro w9 hb hf; have HZ : Aside0 (ArrB w9 ga 103 (shaV l)) := ⟨hb⟩; have HB9 := Aside0.mk (HB8.out.trans (hf.belowB HB8.out.size (fun k e => by rw [e]; exact HG2.out.2.1))); clear hb hf))
   refine bodyPost_ret (results_cell_row rfl _ _ ga 103 (u8s (shaV l)) (0, 0) _ rfl HZ.out Tryz.underlying103 rfl (by rw [u8s_size, shaV_len]; exact size103)) rfl ?_
   exact ⟨rfl, HB9.out⟩
end Go.Proofs.YteadamkkbgnpeaaGreat.S
end OfS6
section OfA1
set_option linter.unusedVariables false
set_option linter.unusedSimpArgs false
namespace Go.Proofs.YteadamkkbgnpeaaGreat.A
open Go.RowKit YteadamkkbgnpeaaGreatW.PrintLast B S QTC YteadamkkbgnpeaaGreatW.PrintWords YteadamkkbgnpeaaGreatW.PrintMore
/-- A cipher's cells: done, the lock, its sema, made; the key, the boxes, what is twice, the words (704 bytes); how many turns. -/
def cipC (d st : Int) (bs : List Int) (r : Int) : List Value := .int .u32 d :: .int .i32 st :: .int .u32 0 :: .bool true :: (bs.map (Value.int .u8) ++ [.int .i64 r])
def CipAt (w : World) (g : Nat) (d st : Int) (bs : List Int) (r : Int) : Prop := w.heap[g]? = some (.cells (cipC d st bs r).toArray 149 (0, 0))
section
variable {w w1 : World} {g : Nat} {d st r : Int} {bs : List Int}
theorem CipAt.cell (h : CipAt w g d st bs r) (i : Nat) (hi : i < bs.length) : w.cell? ⟨g, 4 + i, none⟩ = some (.int .u8 (bs.getD i 0)) := by
 rw [blk_cell h (4 + i)]
 simp only [cipC, List.getElem?_toArray]
 rw [show 4 + i = i + 1 + 1 + 1 + 1 by omega, List.getElem?_cons_succ, List.getElem?_cons_succ, List.getElem?_cons_succ, List.getElem?_cons_succ, List.getElem?_append_left (by rw [List.length_map]; exact hi)]
 simp [hi, List.getD_eq_getElem?_getD]
theorem CipAt.fz (h : CipAt w g d st bs r) (i : Nat) : w.frozen? ⟨g, i, none⟩ = false := blk_frozen h i
theorem CipAt.set (h : CipAt w g d st bs r) (i : Nat) (x : Int) (hi : i < bs.length) : CipAt (w.setCell ⟨g, 4 + i, none⟩ (.int .u8 x)) g d st (bs.set i x) r := by
 have := blk_set h (4 + i) (.int .u8 x)
 rw [CipAt, this]
 congr 2
 rw [show 4 + i = i + 1 + 1 + 1 + 1 by omega]
 simp only [cipC, List.setIfInBounds_toArray, List.set_cons_succ]
 rw [List.set_append_left _ _ (by rw [List.length_map]; exact hi), List.map_set]
theorem CipAt.c0 (h : CipAt w g d st bs r) : w.cell? ⟨g, 0, none⟩ = some (.int .u32 d) := (blk_cell h 0).trans (by simp [cipC])
theorem CipAt.c1 (h : CipAt w g d st bs r) : w.cell? ⟨g, 1, none⟩ = some (.int .i32 st) := (blk_cell h 1).trans (by simp [cipC])
theorem CipAt.c3 (h : CipAt w g d st bs r) : w.cell? ⟨g, 3, none⟩ = some (.bool true) := (blk_cell h 3).trans (by simp [cipC])
theorem CipAt.set0 (h : CipAt w g d st bs r) (x : Int) : CipAt (w.setCell ⟨g, 0, none⟩ (.int .u32 x)) g x st bs r := by
 have := blk_set h 0 (.int .u32 x)
 rw [CipAt, this]
 congr 2
theorem CipAt.set1 (h : CipAt w g d st bs r) (x : Int) : CipAt (w.setCell ⟨g, 1, none⟩ (.int .i32 x)) g d x bs r := by
 have := blk_set h 1 (.int .i32 x)
 rw [CipAt, this]
 congr 2
theorem CipAt.cr (h : CipAt w g d st bs r) (hT : bs.length = 704) : w.cell? ⟨g, 708, none⟩ = some (.int .i64 r) := by
 rw [blk_cell h 708]
 simp only [cipC, List.getElem?_toArray]
 rw [show (708 : Nat) = 704 + 1 + 1 + 1 + 1 from rfl, List.getElem?_cons_succ, List.getElem?_cons_succ, List.getElem?_cons_succ, List.getElem?_cons_succ, List.getElem?_append_right (by rw [List.length_map, hT]; exact Nat.le_refl _), List.length_map, hT]
 rfl
theorem CipAt.setr (h : CipAt w g d st bs r) (hT : bs.length = 704) (x : Int) : CipAt (w.setCell ⟨g, 708, none⟩ (.int .i64 x)) g d st bs x := by
 have := blk_set h 708 (.int .i64 x)
 rw [CipAt, this]
 congr 2
 simp only [cipC, List.setIfInBounds_toArray]
 rw [show (708 : Nat) = 704 + 1 + 1 + 1 + 1 from rfl, List.set_cons_succ, List.set_cons_succ, List.set_cons_succ, List.set_cons_succ, List.set_append_right _ _ (by rw [List.length_map, hT]; exact Nat.le_refl _), List.length_map, hT]
 rfl
theorem CipAt.below (h : CipAt w g d st bs r) (k : Below w.heap.size w w1) : CipAt w1 g d st bs r := (k.block g (blk_lt h)).trans h
theorem CipAt.fr {S : Nat → Prop} (h : CipAt w g d st bs r) (k : Fr w w1 S) (hn : ¬ S g) : CipAt w1 g d st bs r := k.blk h hn
end
abbrev x8 (a b : Int) : Int := Go.bits .xor .u8 a b
theorem x8_b (a b : Int) : 0 ≤ Go.bits .xor .u8 a b ∧ Go.bits .xor .u8 a b < 256 := by
 unfold Go.bits
 rw [IntKind.wrap_u8]
 omega
theorem tmod_n (i k m : Nat) (h : i + k < 4611686018427387904) : (wrap64 ((i : Int) + (k : Int))).tmod (m : Int) = (((i + k) % m : Nat) : Int) := by
 have e : wrap64 ((i : Int) + (k : Int)) = ((i + k : Nat) : Int) := by unfold wrap64; omega
 rw [e, Int.tmod_eq_emod_of_nonneg (by omega)]
 omega
theorem info144 : (Tryz.prog.info? 144).bind (·.zero) = some (.agg (u8s (List.replicate 4 0))) := by kernel_rfl
theorem size144 : (Tryz.prog.info? 144).map (·.size) = some 4 := by kernel_rfl
/-- A byte of a mixed column. -/
def mixC (bs a : List Int) (i : Nat) : Int :=
 x8 (x8 (a.getD i 0) (x8 (x8 (x8 (a.getD 0 0) (a.getD 1 0)) (a.getD 2 0)) (a.getD 3 0))) (bs.getD (272 + (x8 (a.getD i 0) (a.getD ((i + 1) % 4) 0)).toNat) 0)
def mixL (bs a : List Int) : Nat → List Int
 | 0 => List.replicate 4 0
 | i + 1 => (mixL bs a i).set i (mixC bs a i)
theorem mixL_len (bs a : List Int) : ∀ i, (mixL bs a i).length = 4
 | 0 => rfl
 | i + 1 => by rw [mixL, List.length_set]; exact mixL_len bs a i
abbrev MixI (w w' : World) (ba br bo : Nat) (bs a : List Int) (i : Nat) : Prop := w.heap.size ≤ ba ∧ ba < br ∧ br < bo ∧ ArrB w' ba 144 a ∧ ArrB w' br 144 (List.replicate 4 0) ∧ ArrB w' bo 144 (mixL bs a i) ∧ Below w.heap.size w w'
theorem ArrB.far {w : World} {g t : Nat} {xs : List Int} (h : ArrB w g t xs) {p : Addr} (hp : g ≠ p.block) (u : Value) : ArrB (w.setCell p u) g t xs := (Below.heap_setCell w p u g hp).trans h
theorem mset {w w' : World} {ba br bo : Nat} {bs a : List Int} {i : Nat} (h : MixI w w' ba br bo bs a i) (x : Int) : w.heap.size ≤ ba ∧ ba < br ∧ br < bo ∧ ArrB (w'.setCell ⟨bo, i, none⟩ (.int .u8 x)) ba 144 a ∧ ArrB (w'.setCell ⟨bo, i, none⟩ (.int .u8 x)) br 144 (List.replicate 4 0) ∧ ArrB (w'.setCell ⟨bo, i, none⟩ (.int .u8 x)) bo 144 ((mixL bs a i).set i x) ∧ Below w.heap.size w (w'.setCell ⟨bo, i, none⟩ (.int .u8 x)) := by
 obtain ⟨h1, h2, h3, h4, h5, h6, h7⟩ := h
 exact ⟨h1, h2, h3, ArrB.far h4 (by show ba ≠ bo; omega) _, ArrB.far h5 (by show br ≠ bo; omega) _, h6.set i x, h7.setCell (p := ⟨bo, i, none⟩) (by show w.heap.size ≤ bo; omega) _⟩
def A_mix.T6 : Bool × List (List Nat × List Nat) := (true, [([], []), ([], []), ([1], [1]), ([2], [2]), ([], []), ([3, 4], [3, 4]), ([], []), ([], []), ([7], [7]), ([8], [8]), ([], []), ([10], [10]), ([11], [11]), ([12], [12]), ([13], [13]), ([9, 14], [9, 14]), ([6], [6]), ([16], [16]), ([17, 15], [15, 17]), ([18], [18]), ([5, 19], [5, 19]), ([0, 0, 1, 2, 3, 4, 5, 6, 7, 8, 9, 10, 11, 12, 13, 14, 15, 16, 17, 18, 19, 20], [0]), ([21, 20, 0, 1, 2, 3, 4, 5, 6, 7, 8, 9, 10, 11, 12, 13, 14, 15, 16, 17, 18, 19, 20], [20, 21])])
def A_mix.B6 : List Nat := [0, 0, 2, 6, 0, 30, 0, 0, 128, 384, 0, 1024, 3072, 7168, 15360, 32640, 64, 65600, 262080, 524224, 1048574, 2097151, 4194303]
theorem A_mix.tab6 : rtab .any (opsOf Tryz.f76 6) = A_mix.T6 := by kernel_rfl
theorem A_mix.bits6 : waitsOk A_mix.T6.2 A_mix.B6 = true := by kernel_rfl
set_option maxHeartbeats 4000000 in
set_option maxRecDepth 100000 in
theorem mix_calls (g : Nat) (d st r : Int) (bs a : List Int) (hb : bs.length = 704) (ha : a.length = 4) (w : World) (hs : CipAt w g d st bs r) :
  Calls Tryz.prog 76 #[.pointer (some ⟨g, 0, none⟩), .agg (u8s a)] w fun e w' => e = .returned (.agg (u8s (mixL bs a 4))) ∧ Below w.heap.size w w' := by
 have HS := Aside0.mk hs
 have HL : Aside0 (bs.length = 704 ∧ a.length = 4) := ⟨hb, ha⟩
 obtain ⟨a0, h0⟩ : ∃ x, a.getD 0 0 = x := ⟨_, rfl⟩
 obtain ⟨a1, h1⟩ : ∃ x, a.getD 1 0 = x := ⟨_, rfl⟩
 obtain ⟨a2, h2⟩ : ∃ x, a.getD 2 0 = x := ⟨_, rfl⟩
 obtain ⟨a3, h3⟩ : ∃ x, a.getD 3 0 = x := ⟨_, rfl⟩
 have HA : Aside0 (a.getD 0 0 = a0 ∧ a.getD 1 0 = a1 ∧ a.getD 2 0 = a2 ∧ a.getD 3 0 = a3) := ⟨h0, h1, h2, h3⟩
 clear hs hb ha h0 h1 h2 h3
 go_enter Tryz.func76, Tryz.ntmps76
 go_wp2_with (first
  | ((with_reducible refine gate_dst (N := 3) rfl ?_); refine box_v rfl rfl rfl ?_; intro ba hg w1 hb hw; have HB1 := Aside0.mk hw; have HG1 := Aside0.mk hg; have HA1 : Aside0 (ArrB w1 ba 144 a) := ⟨hb⟩; clear hb hw hg)
  | ((with_reducible refine gate_dst (N := 4) rfl ?_); refine alloc_v rfl rfl info144 ?hr ?_; (case hr => rfl); intro br hg w2 hb hw; have HB2 := Aside0.mk (below_step HB1.out hw); have HG2 := Aside0.mk hg; have HA2 := Aside0.mk (HA1.out.below hw); have HR2 : Aside0 (ArrB w2 br 144 (List.replicate 4 0)) := ⟨hb⟩; have k0 := HA2.out.cell 0 (by rw [HL.out.2]; decide); have k1 := HA2.out.cell 1 (by rw [HL.out.2]; decide); have k2 := HA2.out.cell 2 (by rw [HL.out.2]; decide); have k3 := HA2.out.cell 3 (by rw [HL.out.2]; decide); rw [HA.out.1] at k0; rw [HA.out.2.1] at k1; rw [HA.out.2.2.1] at k2; rw [HA.out.2.2.2] at k3; clear hb hw hg)
  | ((with_reducible refine gate_dst (N := 6) rfl ?_); refine alloc_v rfl rfl info144 ?hr ?_; (case hr => rfl); intro bo hg w3 hb hw; clear k0 k1 k2 k3; have HB3 := Aside0.mk (below_step HB2.out hw); have HG3 := Aside0.mk hg; have HA3 := Aside0.mk (HA2.out.below hw); have HR3 := Aside0.mk (HR2.out.below hw); have HO3 : Aside0 (ArrB w3 bo 144 (List.replicate 4 0)) := ⟨hb⟩; clear hb hw hg))
 have HM : Aside0 (w.heap.size ≤ ba ∧ ba < br ∧ br < bo ∧ ArrB w3 ba 144 a ∧ ArrB w3 br 144 (List.replicate 4 0) ∧ ArrB w3 bo 144 (mixL bs a 0) ∧ Below w.heap.size w w3) := ⟨by
  have o1 := HG1.out
  have o2 := HG2.out
  have o3 := HG3.out
  have s1 := HB1.out.size
  have b1 := blk_lt HA1.out
  have b2 := blk_lt HR2.out
  exact ⟨by omega, by omega, by omega, HA3.out, HR3.out, HO3.out, HB3.out⟩⟩
 clear HB1 HG1 HA1 HB2 HG2 HA2 HR2 HB3 HG3 HA3 HR3 HO3
 go_loopg [19] 5 (fun kq v19 w' => ∃ i : Nat, v19 = .int .i64 (i : Int) ∧ Aside0 (kq = 5 - i ∧ i ≤ 4) ∧ Aside0 (w.heap.size ≤ ba ∧ ba < br ∧ br < bo ∧ ArrB w' ba 144 a ∧ ArrB w' br 144 (List.replicate 4 0) ∧ ArrB w' bo 144 (mixL bs a i) ∧ Below w.heap.size w w'))
 case atStart => exact ⟨0, by first | rfl | simp, ⟨by omega⟩, HM⟩
 case round =>
  obtain ⟨i, rfl, HK, HM1⟩ := hrel
  clear HM
  by_cases c1 : (i : Int) < 4
  ·have c1b : decide ((i : Int) < 4) = true := decide_eq_true c1
   have hix := eq_true c1
   have hi0 := eq_true (show (0 : Int) ≤ (i : Int) by omega)
   have hi : i < 4 := by omega
   have HI := Aside0.mk hi
   clear c1
   obtain ⟨ax, hax⟩ : ∃ x, a.getD i 0 = x := ⟨_, rfl⟩
   obtain ⟨ay, hay⟩ : ∃ x, a.getD ((i + 1) % 4) 0 = x := ⟨_, rfl⟩
   have q1 := HM1.out.2.2.2.1.cell i (by rw [HL.out.2]; exact hi)
   have q2 := HM1.out.2.2.2.1.cell ((i + 1) % 4) (by rw [HL.out.2]; omega)
   rw [hax] at q1
   rw [hay] at q2
   obtain ⟨j, hj⟩ := Int.eq_ofNat_of_zero_le (x8_b ax ay).1
   have hjl : j < 256 := by have := (x8_b ax ay).2; omega
   have q3 := (HS.out.below HM1.out.2.2.2.2.2.2).cell (272 + j) (by rw [HL.out.1]; omega)
   rw [show 4 + (272 + j) = 276 + j by omega] at q3
   obtain ⟨tw, htw⟩ : ∃ x, bs.getD (272 + j) 0 = x := ⟨_, rfl⟩
   rw [htw] at q3
   have j0 := eq_true (show (0 : Int) ≤ (j : Int) by omega)
   have j1 := eq_true (show (j : Int) < 256 by omega)
   obtain ⟨n1, hn1⟩ : ∃ n, (i + 1) % 4 = n := ⟨_, rfl⟩
   have n1l : n1 < 4 := by rw [← hn1]; exact Nat.mod_lt _ (by decide)
   have n10 := eq_true (Int.natCast_nonneg n1)
   have n11 := eq_true (show (n1 : Int) < 4 from Int.ofNat_lt.2 n1l)
   clear n1l
   have e1 : (wrap64 ((i : Int) + 1)).tmod 4 = (n1 : Int) := by
    rw [← hn1]
    exact tmod_n i 1 4 (by omega)
   rw [hn1] at q2 hay
   have HX : Aside0 (a.getD i 0 = ax ∧ a.getD n1 0 = ay ∧ x8 ax ay = (j : Int) ∧ bs.getD (272 + j) 0 = tw ∧ i < 4) := ⟨hax, hay, hj, htw, hi⟩
   have HV : Aside0 (mixC bs a i = x8 (x8 ax (x8 (x8 (x8 a0 a1) a2) a3)) tw) := ⟨by
    unfold mixC
    rw [HA.out.1, HA.out.2.1, HA.out.2.2.1, HA.out.2.2.2, hax, hn1, hay, show x8 ax ay = (j : Int) from hj, Int.toNat_natCast, htw]⟩
   clear hax hay htw hn1 hjl
   go_wp2
   have Q1 : Aside0 (wr.drew.cell? ⟨ba, i, none⟩ = some (.int .u8 ax)) := ⟨q1⟩
   have Q2 : Aside0 (wr.drew.cell? ⟨ba, n1, none⟩ = some (.int .u8 ay)) := ⟨q2⟩
   have Q3 : Aside0 (wr.drew.cell? ⟨g, 276 + j, none⟩ = some (.int .u8 tw)) := ⟨q3⟩
   have HX1 : Aside0 (MixI w wr.drew ba br bo bs a i) := ⟨HM1.out.1, HM1.out.2.1, HM1.out.2.2.1, HM1.out.2.2.2.1, HM1.out.2.2.2.2.1, HM1.out.2.2.2.2.2.1, below_drew HM1.out.2.2.2.2.2.2⟩
   clear q1 q2 q3
   refine start_ (n := 23) (S := fun w' => w'.cell? ⟨ba, i, none⟩ = some (.int .u8 ax) ∧ w'.cell? ⟨ba, n1, none⟩ = some (.int .u8 ay) ∧ w'.cell? ⟨g, 276 + j, none⟩ = some (.int .u8 tw)) (ds := [22]) #[false, false, false, false, false, false, false, false, false, false, false, false, false, false, false, false, false, false, false, false, false, false, false] (by kernel_rfl) rfl rfl ⟨Q1.out, Q2.out, Q3.out⟩ (fun hHeld => ?_)
   refine with_tabW A_mix.tab6 A_mix.bits6 (fun HT_ HW_ => ?_)
   generalize wr.drew = x1 at HX1 Q1 Q2 Q3 hHeld ⊢
   refine pure_ (i := 0) (N := some 22) (v := ?_) (a' := ?_) #[true, false, false, false, false, false, false, false, false, false, false, false, false, false, false, false, false, false, false, false, false, false, false] rfl rfl (any_of HT_.out (by kernel_rfl)) (fun _ _ _ h => h) (Or.inl ⟨by rfl, ?_⟩) ?_ ?_
   rotate_left
   ·intro w'
    go_simp
    with_reducible rfl
   rotate_left
   ·simp only [Act.put, List.setIfInBounds_toArray, List.set_cons_zero, List.set_cons_succ, i64_w, i32_w]
    rfl
   refine pure_ (i := 1) (N := some 23) (v := ?_) (a' := ?_) #[true, true, false, false, false, false, false, false, false, false, false, false, false, false, false, false, false, false, false, false, false, false, false] rfl rfl (any_of HT_.out (by kernel_rfl)) (fun _ _ _ h => h) (Or.inl ⟨by rfl, ?_⟩) ?_ ?_
   rotate_left
   ·intro w'
    go_simp
    with_reducible rfl
   rotate_left
   ·simp only [Act.put, List.setIfInBounds_toArray, List.set_cons_zero, List.set_cons_succ, i64_w, i32_w]
    rfl
   refine pure_ (i := 2) (N := some 24) (v := ?_) (a' := ?_) #[true, true, true, false, false, false, false, false, false, false, false, false, false, false, false, false, false, false, false, false, false, false, false] rfl rfl (any_of HT_.out (by kernel_rfl)) (fun _ _ _ h => h) (Or.inl ⟨by rfl, ?_⟩) ?_ ?_
   rotate_left
   ·intro w'
    go_simp
    with_reducible rfl
   rotate_left
   ·simp only [Act.put, List.setIfInBounds_toArray, List.set_cons_zero, List.set_cons_succ, i64_w, i32_w]
    rfl
   refine pure_ (i := 4) (N := some 26) (v := ?_) (a' := ?_) #[true, true, true, false, true, false, false, false, false, false, false, false, false, false, false, false, false, false, false, false, false, false, false] rfl rfl (any_of HT_.out (by kernel_rfl)) (fun _ _ _ h => h) (Or.inl ⟨by rfl, ?_⟩) ?_ ?_
   rotate_left
   ·intro w'
    go_simp
    with_reducible rfl
   rotate_left
   ·simp only [Act.put, List.setIfInBounds_toArray, List.set_cons_zero, List.set_cons_succ, i64_w, i32_w]
    rfl
   refine pure_ (i := 6) (N := some 28) (v := ?_) (a' := ?_) #[true, true, true, false, true, false, true, false, false, false, false, false, false, false, false, false, false, false, false, false, false, false, false] rfl rfl (any_of HT_.out (by kernel_rfl)) (fun _ _ _ h => h) (Or.inl ⟨by rfl, ?_⟩) ?_ ?_
   rotate_left
   ·intro w'
    go_simp
    with_reducible rfl
   rotate_left
   ·simp only [Act.put, List.setIfInBounds_toArray, List.set_cons_zero, List.set_cons_succ, i64_w, i32_w]
    rfl
   refine pure_ (i := 7) (N := some 29) (v := ?_) (a' := ?_) #[true, true, true, false, true, false, true, true, false, false, false, false, false, false, false, false, false, false, false, false, false, false, false] rfl rfl (any_of HT_.out (by kernel_rfl)) (fun _ _ _ h => h) (Or.inl ⟨by rfl, ?_⟩) ?_ ?_
   rotate_left
   ·intro w'
    go_simp
    with_reducible rfl
   rotate_left
   ·simp only [Act.put, List.setIfInBounds_toArray, List.set_cons_zero, List.set_cons_succ, i64_w, i32_w]
    rfl
   refine pure_ (i := 8) (N := some 30) (v := ?_) (a' := ?_) #[true, true, true, false, true, false, true, true, true, false, false, false, false, false, false, false, false, false, false, false, false, false, false] rfl rfl (any_of HT_.out (by kernel_rfl)) (fun _ _ _ h => h) (Or.inl ⟨by rfl, ?_⟩) ?_ ?_
   rotate_left
   ·intro w'
    go_simp
    with_reducible rfl
   rotate_left
   ·simp only [Act.put, List.setIfInBounds_toArray, List.set_cons_zero, List.set_cons_succ, i64_w, i32_w]
    rfl
   refine pure_ (i := 10) (N := some 32) (v := ?_) (a' := ?_) #[true, true, true, false, true, false, true, true, true, false, true, false, false, false, false, false, false, false, false, false, false, false, false] rfl rfl (any_of HT_.out (by kernel_rfl)) (fun _ _ _ h => h) (Or.inl ⟨by rfl, ?_⟩) ?_ ?_
   rotate_left
   ·intro w'
    go_simp
    with_reducible rfl
   rotate_left
   ·simp only [Act.put, List.setIfInBounds_toArray, List.set_cons_zero, List.set_cons_succ, i64_w, i32_w]
    rfl
   refine pure_ (i := 11) (N := some 33) (v := ?_) (a' := ?_) #[true, true, true, false, true, false, true, true, true, false, true, true, false, false, false, false, false, false, false, false, false, false, false] rfl rfl (any_of HT_.out (by kernel_rfl)) (fun _ _ _ h => h) (Or.inl ⟨by rfl, ?_⟩) ?_ ?_
   rotate_left
   ·intro w'
    go_simp
    with_reducible rfl
   rotate_left
   ·simp only [Act.put, List.setIfInBounds_toArray, List.set_cons_zero, List.set_cons_succ, i64_w, i32_w]
    rfl
   refine pure_ (i := 12) (N := some 34) (v := ?_) (a' := ?_) #[true, true, true, false, true, false, true, true, true, false, true, true, true, false, false, false, false, false, false, false, false, false, false] rfl rfl (any_of HT_.out (by kernel_rfl)) (fun _ _ _ h => h) (Or.inl ⟨by rfl, ?_⟩) ?_ ?_
   rotate_left
   ·intro w'
    go_simp
    with_reducible rfl
   rotate_left
   ·simp only [Act.put, List.setIfInBounds_toArray, List.set_cons_zero, List.set_cons_succ, i64_w, i32_w]
    rfl
   refine pure_ (i := 13) (N := some 35) (v := ?_) (a' := ?_) #[true, true, true, false, true, false, true, true, true, false, true, true, true, true, false, false, false, false, false, false, false, false, false] rfl rfl (any_of HT_.out (by kernel_rfl)) (fun _ _ _ h => h) (Or.inl ⟨by rfl, ?_⟩) ?_ ?_
   rotate_left
   ·intro w'
    go_simp
    with_reducible rfl
   rotate_left
   ·simp only [Act.put, List.setIfInBounds_toArray, List.set_cons_zero, List.set_cons_succ, i64_w, i32_w]
    rfl
   refine pure_ (i := 16) (N := some 38) (v := ?_) (a' := ?_) #[true, true, true, false, true, false, true, true, true, false, true, true, true, true, false, false, true, false, false, false, false, false, false] rfl rfl (any_of HT_.out (by kernel_rfl)) (fun _ _ _ h => h) (Or.inl ⟨by rfl, ?_⟩) ?_ ?_
   rotate_left
   ·intro w'
    go_simp
    with_reducible rfl
   rotate_left
   ·simp only [Act.put, List.setIfInBounds_toArray, List.set_cons_zero, List.set_cons_succ, i64_w, i32_w]
    rfl
   refine pure_ (i := 17) (N := some 39) (v := ?_) (a' := ?_) #[true, true, true, false, true, false, true, true, true, false, true, true, true, true, false, false, true, true, false, false, false, false, false] rfl rfl (any_of HT_.out (by kernel_rfl)) (fun _ _ _ h => h) (Or.inl ⟨by rfl, ?_⟩) ?_ ?_
   rotate_left
   ·intro w'
    go_simp
    with_reducible rfl
   rotate_left
   ·simp only [Act.put, List.setIfInBounds_toArray, List.set_cons_zero, List.set_cons_succ, i64_w, i32_w]
    rfl
   refine take_ (i := 3) (N := some 25) (v := ?_) (a' := ?_) #[true, true, true, true, true, false, true, true, true, false, true, true, true, true, false, false, true, true, false, false, false, false, false] rfl rfl (take_ofW HT_.out HW_.out (by kernel_rfl)) (fun _ _ _ h => h) (Or.inl ⟨by rfl, ?_⟩) hHeld ?_ ?_
   rotate_left
   ·rintro w' ⟨s0, s1, s2⟩
    go_simp
    with_reducible rfl
   rotate_left
   ·simp only [Act.put, List.setIfInBounds_toArray, List.set_cons_zero, List.set_cons_succ, i64_w, i32_w]
    rfl
   refine pure_ (i := 5) (N := some 27) (v := ?_) (a' := ?_) #[true, true, true, true, true, true, true, true, true, false, true, true, true, true, false, false, true, true, false, false, false, false, false] rfl rfl (any_of HT_.out (by kernel_rfl)) (fun _ _ _ h => h) (Or.inl ⟨by rfl, ?_⟩) ?_ ?_
   rotate_left
   ·intro w'
    go_simp
    with_reducible rfl
   rotate_left
   ·simp only [Act.put, List.setIfInBounds_toArray, List.set_cons_zero, List.set_cons_succ, i64_w, i32_w]
    rfl
   refine take_ (i := 9) (N := some 31) (v := ?_) (a' := ?_) #[true, true, true, true, true, true, true, true, true, true, true, true, true, true, false, false, true, true, false, false, false, false, false] rfl rfl (take_ofW HT_.out HW_.out (by kernel_rfl)) (fun _ _ _ h => h) (Or.inl ⟨by rfl, ?_⟩) hHeld ?_ ?_
   rotate_left
   ·rintro w' ⟨s0, s1, s2⟩
    go_simp
    with_reducible rfl
   rotate_left
   ·simp only [Act.put, List.setIfInBounds_toArray, List.set_cons_zero, List.set_cons_succ, i64_w, i32_w]
    rfl
   refine take_ (i := 14) (N := some 36) (v := ?_) (a' := ?_) #[true, true, true, true, true, true, true, true, true, true, true, true, true, true, true, false, true, true, false, false, false, false, false] rfl rfl (take_ofW HT_.out HW_.out (by kernel_rfl)) (fun _ _ _ h => h) (Or.inl ⟨by rfl, ?_⟩) hHeld ?_ ?_
   rotate_left
   ·rintro w' ⟨s0, s1, s2⟩
    go_simp
    with_reducible rfl
   rotate_left
   ·simp only [Act.put, List.setIfInBounds_toArray, List.set_cons_zero, List.set_cons_succ, i64_w, i32_w]
    rfl
   refine pure_ (i := 15) (N := some 37) (v := ?_) (a' := ?_) #[true, true, true, true, true, true, true, true, true, true, true, true, true, true, true, true, true, true, false, false, false, false, false] rfl rfl (any_of HT_.out (by kernel_rfl)) (fun _ _ _ h => h) (Or.inl ⟨by rfl, ?_⟩) ?_ ?_
   rotate_left
   ·intro w'
    go_simp
    with_reducible rfl
   rotate_left
   ·simp only [Act.put, List.setIfInBounds_toArray, List.set_cons_zero, List.set_cons_succ, i64_w, i32_w]
    rfl
   refine pure_ (i := 18) (N := some 40) (v := ?_) (a' := ?_) #[true, true, true, true, true, true, true, true, true, true, true, true, true, true, true, true, true, true, true, false, false, false, false] rfl rfl (any_of HT_.out (by kernel_rfl)) (fun _ _ _ h => h) (Or.inl ⟨by rfl, ?_⟩) ?_ ?_
   rotate_left
   ·intro w'
    go_simp
    with_reducible rfl
   rotate_left
   ·simp only [Act.put, List.setIfInBounds_toArray, List.set_cons_zero, List.set_cons_succ, i64_w, i32_w]
    rfl
   refine take_ (i := 19) (N := some 41) (v := ?_) (a' := ?_) #[true, true, true, true, true, true, true, true, true, true, true, true, true, true, true, true, true, true, true, true, false, false, false] rfl rfl (take_ofW HT_.out HW_.out (by kernel_rfl)) (fun _ _ _ h => h) (Or.inl ⟨by rfl, ?_⟩) hHeld ?_ ?_
   rotate_left
   ·rintro w' ⟨s0, s1, s2⟩
    go_simp
    with_reducible rfl
   rotate_left
   ·simp only [Act.put, List.setIfInBounds_toArray, List.set_cons_zero, List.set_cons_succ, i64_w, i32_w]
    rfl
   refine pure_ (i := 20) (N := some 42) (v := ?_) (a' := ?_) #[true, true, true, true, true, true, true, true, true, true, true, true, true, true, true, true, true, true, true, true, true, false, false] rfl rfl (any_of HT_.out (by kernel_rfl)) (fun _ _ _ h => h) (Or.inl ⟨by rfl, ?_⟩) ?_ ?_
   rotate_left
   ·intro w'
    go_simp
    with_reducible rfl
   rotate_left
   ·simp only [Act.put, List.setIfInBounds_toArray, List.set_cons_zero, List.set_cons_succ, i64_w, i32_w]
    rfl
   refine pure_ (i := 21) (N := some 43) (v := ?_) (a' := ?_) #[true, true, true, true, true, true, true, true, true, true, true, true, true, true, true, true, true, true, true, true, true, true, false] rfl rfl (any_of HT_.out (by kernel_rfl)) (fun _ _ _ h => h) (Or.inl ⟨by rfl, ?_⟩) ?_ ?_
   rotate_left
   ·intro w'
    go_simp
    with_reducible rfl
   rotate_left
   ·simp only [Act.put, List.setIfInBounds_toArray, List.set_cons_zero, List.set_cons_succ, i64_w, i32_w]
    rfl
   refine last_ (i := 22) (N := none) #[true, true, true, true, true, true, true, true, true, true, true, true, true, true, true, true, true, true, true, true, true, true, true] rfl rfl (one_of HT_.out (by kernel_rfl)) (by decide) (fun K hK => ?_)
   have hcs := HX1.out.2.2.2.2.2.1.cell i (by rw [mixL_len]; exact HX.out.2.2.2.2)
   have hfs := HX1.out.2.2.2.2.2.1.frozen i
   refine skip_ (w1 := World.setCell x1 ⟨bo, i, none⟩ (.int .u8 (mixC bs a i))) (by rfl) rfl ?_ ?_
   ·rw [HV.out]; go_simp
   have HX2 := Aside0.mk (mset HX1.out (mixC bs a i))
   generalize World.setCell x1 ⟨bo, i, none⟩ (.int .u8 (mixC bs a i)) = x2 at HX2 ⊢
   refine hK.out _ _ ?_
   clear hK K
   refine done_ (done_of HT_.out (by kernel_rfl)) ?_

   go_wp2
   go_roundg (gk - 1)
   case measure => have := HK.out; have := HI.out; omega
   case rel =>
    refine ⟨i + 1, ?_, ⟨by have := HK.out; have := HI.out; omega⟩, HX2⟩
    have := HI.out
    first
    | rfl
    | (congr 1; unfold wrap64; omega)
    | (congr 1; done)
  ·have hi : i = 4 := by have := HK.out; omega
   have c1b : decide ((i : Int) < 4) = false := decide_eq_false c1
   clear c1
   subst hi
   have HM2 := HM1
   go_wp2_with (first
    | ((with_reducible refine gate_dst (N := 45) rfl ?_); refine wpList_load_row rfl 144 (.tmp 6) rfl bo rfl 144 (u8s (mixL bs a 4)) (0, 0) _ HM2.out.2.2.2.2.2.1 Tryz.underlying144 rfl (by rw [u8s_size, mixL_len]; exact size144) ?_)
    | (refine store_row (t := 144) (e := 144) (g := br) (cells := u8s (mixL bs a 4)) rfl rfl rfl rfl rfl HM2.out.2.2.2.2.1 (by rw [u8s_size, mixL_len]; exact size144) (by rw [u8s_size, u8s_size, mixL_len]; rfl) (u8s_one _) ?_; intro w9 hb hf; have HZ : Aside0 (ArrB w9 br 144 (mixL bs a 4)) := ⟨hb⟩; have HB9 := Aside0.mk (HM2.out.2.2.2.2.2.2.trans (hf.belowB HM2.out.2.2.2.2.2.2.size (fun k e => by have := HM2.out.1; have := HM2.out.2.1; omega))); clear hb hf))
   refine bodyPost_ret (results_cell_row rfl _ _ br 144 (u8s (mixL bs a 4)) (0, 0) _ rfl HZ.out Tryz.underlying144 rfl (by rw [u8s_size, mixL_len]; exact size144)) rfl ?_
   exact ⟨rfl, HB9.out⟩
end Go.Proofs.YteadamkkbgnpeaaGreat.A
end OfA1
section OfA2
set_option linter.unusedVariables false
set_option linter.unusedSimpArgs false
namespace Go.Proofs.YteadamkkbgnpeaaGreat.A
open Go.RowKit YteadamkkbgnpeaaGreatW.PrintLast B S QTC YteadamkkbgnpeaaGreatW.PrintWords YteadamkkbgnpeaaGreatW.PrintMore
def dblV (a : Int) : Int := (aes_double.f a).getD 0
theorem dbl_some (a : Int) : aes_double.f a = some (dblV a) := by
 unfold dblV aes_double.f
 split <;> rfl
def affV (a : Int) : Int := (aes_affine.f 10 a).getD 0
theorem aff_all : ∀ q : Fin 256, (aes_affine.f 10 ((q.val : Nat) : Int)).isSome = true := by decide +kernel
theorem aff_some (a : Int) (h : 0 ≤ a ∧ a < 256) : aes_affine.f 10 a = some (affV a) := by
 obtain ⟨n, rfl⟩ := Int.eq_ofNat_of_zero_le h.1
 have := aff_all ⟨n, by omega⟩
 unfold affV
 obtain ⟨x, hx⟩ := Option.isSome_iff_exists.1 this
 simp only at hx
 rw [hx]
 rfl
/-- The next inverse, without and with what is folded. -/
def stepR (q : Int) : Int :=
 let q1 := x8 q ((q * 2) % 256)
 let q2 := x8 q1 ((q1 * 4) % 256)
 x8 q2 ((q2 * 16) % 256)
def stepQ (q : Int) : Int := if Go.bits .and .u8 (stepR q) 128 = 0 then stepR q else x8 (stepR q) 9
theorem stepQ_b (q : Int) : 0 ≤ stepQ q ∧ stepQ q < 256 := by
 unfold stepQ
 split
 ·exact x8_b _ _
 ·exact x8_b _ _
def stepP (p : Int) : Int := x8 p (dblV p)
def boxP : Nat → Int
 | 0 => 1
 | i + 1 => stepP (boxP i)
def boxQ : Nat → Int
 | 0 => 1
 | i + 1 => stepQ (boxQ i)
def boxO : Nat → List Int
 | 0 => List.replicate 256 0
 | i + 1 => (boxO i).set (boxP i).toNat (affV (boxQ i))
theorem boxO_len : ∀ i, (boxO i).length = 256
 | 0 => by rw [boxO, List.length_replicate]
 | i + 1 => by rw [boxO, List.length_set]; exact boxO_len i
theorem boxP_b : ∀ i, 0 ≤ boxP i ∧ boxP i < 256
 | 0 => by rw [boxP]; omega
 | i + 1 => x8_b _ _
theorem boxQ_b : ∀ i, 0 ≤ boxQ i ∧ boxQ i < 256
 | 0 => by rw [boxQ]; omega
 | i + 1 => stepQ_b _
/-- The boxes. -/
def boxV : List Int := (boxO 255).set 0 (affV 0)
theorem boxV_len : boxV.length = 256 := by rw [boxV, List.length_set]; exact boxO_len _
theorem info143 : (Tryz.prog.info? 143).bind (·.zero) = some (.agg (u8s (List.replicate 256 0))) := by kernel_rfl
theorem size143 : (Tryz.prog.info? 143).map (·.size) = some 256 := by kernel_rfl
abbrev BoxI (w w' : World) (br bo : Nat) (i : Nat) : Prop := w.heap.size ≤ br ∧ br < bo ∧ ArrB w' br 143 (List.replicate 256 0) ∧ ArrB w' bo 143 (boxO i) ∧ Below w.heap.size w w'
theorem BoxI.step {w w' : World} {br bo i p : Nat} {q : Int} (h : BoxI w w' br bo i) (hp : boxP i = (p : Int)) (hq : boxQ i = q) : BoxI w (w'.setCell ⟨bo, p, none⟩ (.int .u8 (affV q))) br bo (i + 1) := by
 obtain ⟨h1, h2, h3, h4, h5⟩ := h
 refine ⟨h1, h2, ArrB.far h3 (by show br ≠ bo; omega) _, ?_, h5.setCell (p := ⟨bo, p, none⟩) (by show w.heap.size ≤ bo; omega) _⟩
 rw [boxO, hp, hq, Int.toNat_natCast]
 exact h4.set p _
theorem BoxI.below {w w1 w2 : World} {br bo i : Nat} (h : BoxI w w1 br bo i) (k : Below w1.heap.size w1 w2) : BoxI w w2 br bo i :=
 ⟨h.1, h.2.1, h.2.2.1.below k, h.2.2.2.1.below k, below_step h.2.2.2.2 k⟩
set_option maxHeartbeats 4000000 in
set_option maxRecDepth 100000 in
theorem boxes_calls (w : World) : Calls Tryz.prog 103 #[] w fun e w' => e = .returned (.agg (u8s boxV)) ∧ Below w.heap.size w w' := by
 go_enter Tryz.func103, Tryz.ntmps103
 go_wp2_with (first
  | ((with_reducible refine gate_dst (N := 0) rfl ?_); refine alloc_v rfl rfl info143 ?hr ?_; (case hr => rfl); intro br hg w2 hb hw; have HB2 := Aside0.mk hw; have HG2 := Aside0.mk hg; have HR2 : Aside0 (ArrB w2 br 143 (List.replicate 256 0)) := ⟨hb⟩; clear hb hw hg)
  | ((with_reducible refine gate_dst (N := 1) rfl ?_); refine alloc_v rfl rfl info143 ?hr ?_; (case hr => rfl); intro bo hg w3 hb hw; have HB3 := Aside0.mk (below_step HB2.out hw); have HG3 := Aside0.mk hg; have HR3 := Aside0.mk (HR2.out.below hw); have HO3 : Aside0 (ArrB w3 bo 143 (List.replicate 256 0)) := ⟨hb⟩; clear hb hw hg))
 have HM : Aside0 (BoxI w w3 br bo 0) := ⟨by
  have o2 := HG2.out
  have o3 := HG3.out
  have b2 := blk_lt HR2.out
  exact ⟨by omega, by omega, HR3.out, HO3.out, HB3.out⟩⟩
 clear HB2 HG2 HR2 HB3 HG3 HR3 HO3
 go_loopg [2, 3, 4] 256 (fun kq v2 v3 v4 w' => ∃ i : Nat, v4 = .int .i64 (i : Int) ∧ v2 = .int .u8 (boxP i) ∧ v3 = .int .u8 (boxQ i) ∧ Aside0 (kq = 256 - i ∧ i ≤ 255) ∧ Aside0 (BoxI w w' br bo i))
 case atStart => exact ⟨0, by first | rfl | simp, by first | rfl | simp [boxP], by first | rfl | simp [boxQ], ⟨by omega⟩, HM⟩
 case round =>
  obtain ⟨i, rfl, rfl, rfl, HK, HM1⟩ := hrel
  clear HM
  by_cases c1 : (i : Int) < 255
  ·have c1b : decide ((i : Int) < 255) = true := decide_eq_true c1
   have HI : Aside0 (i < 255) := ⟨by omega⟩
   clear c1
   obtain ⟨p, hp⟩ := Int.eq_ofNat_of_zero_le (boxP_b i).1
   obtain ⟨q, hq⟩ : ∃ q, boxQ i = q := ⟨_, rfl⟩
   have hqb := boxQ_b i
   have hpb := (boxP_b i).2
   rw [hq] at hqb
   rw [hp] at hpb
   have p0 := eq_true (Int.natCast_nonneg p)
   have p1 := eq_true hpb
   have hcell := HM1.out.2.2.2.1.cell p (by rw [boxO_len]; omega)
   have hfz := HM1.out.2.2.2.1.frozen p
   have HX : Aside0 (boxP i = (p : Int) ∧ boxQ i = q ∧ 0 ≤ q ∧ q < 256) := ⟨hp, hq, hqb⟩
   rw [hp, hq]
   clear hp hq hpb hqb
   obtain ⟨q3, h3⟩ : ∃ x, stepR q = x := ⟨_, rfl⟩
   by_cases c2 : Go.bits .and .u8 q3 128 = 0
   ·have HQ : Aside0 (stepQ q = q3) := ⟨by unfold stepQ; rw [h3, if_pos c2]⟩
    rw [← h3] at c2
    unfold stepR at c2
    simp only [x8] at c2
    have c2b : (Go.bits .and .u8 (Go.bits .xor .u8 (Go.bits .xor .u8 (Go.bits .xor .u8 q (q * 2 % 256)) (Go.bits .xor .u8 q (q * 2 % 256) * 4 % 256)) (Go.bits .xor .u8 (Go.bits .xor .u8 q (q * 2 % 256)) (Go.bits .xor .u8 q (q * 2 % 256) * 4 % 256) * 16 % 256)) 128 != 0) = false := bne_eq_false_iff_eq.mpr c2
    have c2c : (Go.bits .and .u8 (Go.bits .xor .u8 (Go.bits .xor .u8 (Go.bits .xor .u8 q (q * 2 % 256)) (Go.bits .xor .u8 q (q * 2 % 256) * 4 % 256)) (Go.bits .xor .u8 (Go.bits .xor .u8 q (q * 2 % 256)) (Go.bits .xor .u8 q (q * 2 % 256) * 4 % 256) * 16 % 256)) 128 == 0) = true := beq_iff_eq.mpr c2
    have H3 := Aside0.mk h3
    clear h3 c2
    go_wp2_with (first
     | (go_at_call 110; (with_reducible refine (aes_affine.calls 10 q (affV q) _ (aff_some q ⟨HX.out.2.2.1, HX.out.2.2.2⟩)).mono ?_); rintro e w5 ⟨rfl, hd⟩; have HM2 : Aside0 (BoxI w w5 br bo i) := ⟨HM1.out.below hd.below⟩; have hcell := HM2.out.2.2.2.1.cell p (by rw [boxO_len]; have := HX.out.1; have := boxP_b i; omega); have hfz := HM2.out.2.2.2.1.frozen p; clear hd)
     | (go_at_call 104; (with_reducible refine (aes_double.calls (p : Int) (dblV (p : Int)) _ (dbl_some _)).mono ?_); rintro e w6 ⟨rfl, hd⟩; have HM3 : Aside0 (BoxI w w6 br bo (i + 1)) := ⟨(HM2.out.step HX.out.1 HX.out.2.1).below hd.below⟩; clear hd))
    go_roundg (gk - 1)
    case measure => have := HK.out; have := HI.out; omega
    case rel =>
     refine ⟨i + 1, ?_, ?_, ?_, ⟨by have := HK.out; have := HI.out; omega⟩, HM3⟩
     ·have := HI.out
      first
      | rfl
      | (congr 1; unfold wrap64; omega)
      | (congr 1; done)
     ·rw [boxP, HX.out.1]; rfl
     ·rw [boxQ, HX.out.2.1, HQ.out, ← H3.out]; rfl
   ·have HQ : Aside0 (stepQ q = x8 q3 9) := ⟨by unfold stepQ; rw [h3, if_neg c2]⟩
    rw [← h3] at c2
    unfold stepR at c2
    simp only [x8] at c2
    have c2b : (Go.bits .and .u8 (Go.bits .xor .u8 (Go.bits .xor .u8 (Go.bits .xor .u8 q (q * 2 % 256)) (Go.bits .xor .u8 q (q * 2 % 256) * 4 % 256)) (Go.bits .xor .u8 (Go.bits .xor .u8 q (q * 2 % 256)) (Go.bits .xor .u8 q (q * 2 % 256) * 4 % 256) * 16 % 256)) 128 != 0) = true := bne_iff_ne.mpr c2
    have c2c : (Go.bits .and .u8 (Go.bits .xor .u8 (Go.bits .xor .u8 (Go.bits .xor .u8 q (q * 2 % 256)) (Go.bits .xor .u8 q (q * 2 % 256) * 4 % 256)) (Go.bits .xor .u8 (Go.bits .xor .u8 q (q * 2 % 256)) (Go.bits .xor .u8 q (q * 2 % 256) * 4 % 256) * 16 % 256)) 128 == 0) = false := beq_eq_false_iff_ne.mpr c2
    have H3 := Aside0.mk h3
    clear h3 c2
    go_wp2_with (first
     | (go_at_call 110; (with_reducible refine (aes_affine.calls 10 q (affV q) _ (aff_some q ⟨HX.out.2.2.1, HX.out.2.2.2⟩)).mono ?_); rintro e w5 ⟨rfl, hd⟩; have HM2 : Aside0 (BoxI w w5 br bo i) := ⟨HM1.out.below hd.below⟩; have hcell := HM2.out.2.2.2.1.cell p (by rw [boxO_len]; have := HX.out.1; have := boxP_b i; omega); have hfz := HM2.out.2.2.2.1.frozen p; clear hd)
     | (go_at_call 104; (with_reducible refine (aes_double.calls (p : Int) (dblV (p : Int)) _ (dbl_some _)).mono ?_); rintro e w6 ⟨rfl, hd⟩; have HM3 : Aside0 (BoxI w w6 br bo (i + 1)) := ⟨(HM2.out.step HX.out.1 HX.out.2.1).below hd.below⟩; clear hd))
    go_roundg (gk - 1)
    case measure => have := HK.out; have := HI.out; omega
    case rel =>
     refine ⟨i + 1, ?_, ?_, ?_, ⟨by have := HK.out; have := HI.out; omega⟩, HM3⟩
     ·have := HI.out
      first
      | rfl
      | (congr 1; unfold wrap64; omega)
      | (congr 1; done)
     ·rw [boxP, HX.out.1]; rfl
     ·rw [boxQ, HX.out.2.1, HQ.out, ← H3.out]; rfl
  ·have hi : i = 255 := by have := HK.out; omega
   have c1b : decide ((i : Int) < 255) = false := decide_eq_false c1
   clear c1
   subst hi
   have hcell := HM1.out.2.2.2.1.cell 0 (by rw [boxO_len]; decide)
   have hfz := HM1.out.2.2.2.1.frozen 0
   go_wp2_with (first
    | (go_at_call 110; (with_reducible refine (aes_affine.calls 10 0 (affV 0) _ (aff_some 0 (by decide))).mono ?_); rintro e w5 ⟨rfl, hd⟩; have HM2 : Aside0 (BoxI w w5 br bo 255) := ⟨HM1.out.below hd.below⟩; have hcell := HM2.out.2.2.2.1.cell 0 (by rw [boxO_len]; decide); have hfz := HM2.out.2.2.2.1.frozen 0; clear hd)
    | ((with_reducible refine gate_dst (N := 34) rfl ?_); have HA2 : Aside0 (ArrB (w5.setCell ⟨bo, 0, none⟩ (.int .u8 (affV 0))) bo 143 boxV) := ⟨HM2.out.2.2.2.1.set 0 _⟩; refine wpList_load_row rfl 143 (.tmp 1) rfl bo rfl 143 (u8s boxV) (0, 0) _ HA2.out Tryz.underlying143 rfl (by rw [u8s_size, boxV_len]; exact size143) ?_; have HR2 : Aside0 (ArrB (w5.setCell ⟨bo, 0, none⟩ (.int .u8 (affV 0))) br 143 (List.replicate 256 0)) := ⟨ArrB.far HM2.out.2.2.1 (by have := HM2.out.2.1; show br ≠ bo; omega) _⟩; have HB2 : Aside0 (Below w.heap.size w (w5.setCell ⟨bo, 0, none⟩ (.int .u8 (affV 0)))) := ⟨HM2.out.2.2.2.2.setCell (p := ⟨bo, 0, none⟩) (by have := HM2.out.1; have := HM2.out.2.1; show w.heap.size ≤ bo; omega) _⟩)
    | (refine store_row (t := 143) (e := 143) (g := br) (cells := u8s boxV) rfl rfl rfl rfl rfl HR2.out (by rw [u8s_size, boxV_len]; exact size143) (by rw [u8s_size, u8s_size, boxV_len]; rfl) (u8s_one _) ?_; intro w9 hb hf; have HZ : Aside0 (ArrB w9 br 143 boxV) := ⟨hb⟩; have HB9 := Aside0.mk (HB2.out.trans (hf.belowB HB2.out.size (fun k e => by have := HM2.out.1; omega))); clear hb hf))
   refine bodyPost_ret (results_cell_row rfl _ _ br 143 (u8s boxV) (0, 0) _ rfl HZ.out Tryz.underlying143 rfl (by rw [u8s_size, boxV_len]; exact size143)) rfl ?_
   exact ⟨rfl, HB9.out⟩
attribute [irreducible] boxV boxO boxP boxQ affV dblV
end Go.Proofs.YteadamkkbgnpeaaGreat.A
end OfA2
section OfA3
set_option linter.unusedVariables false
set_option linter.unusedSimpArgs false
namespace Go.Proofs.YteadamkkbgnpeaaGreat.A
open Go.RowKit YteadamkkbgnpeaaGreatW.PrintLast B S QTC YteadamkkbgnpeaaGreatW.PrintWords YteadamkkbgnpeaaGreatW.PrintMore
/-- All are bytes. -/
def AllB (l : List Int) : Prop := ∀ x, x ∈ l → 0 ≤ x ∧ x < 256
theorem AllB.set {l : List Int} (h : AllB l) (i : Nat) {x : Int} (hx : 0 ≤ x ∧ x < 256) : AllB (l.set i x) := by
 intro y hy
 rcases List.mem_or_eq_of_mem_set hy with h1 | h1
 ·exact h y h1
 ·rw [h1]; exact hx
theorem AllB.app {l m : List Int} (h : AllB l) (k : AllB m) : AllB (l ++ m) := by
 intro y hy
 rcases List.mem_append.1 hy with h1 | h1
 ·exact h y h1
 ·exact k y h1
theorem AllB.take {l : List Int} (h : AllB l) (n : Nat) : AllB (l.take n) := fun y hy => h y (List.mem_of_mem_take hy)
theorem AllB.drop {l : List Int} (h : AllB l) (n : Nat) : AllB (l.drop n) := fun y hy => h y (List.mem_of_mem_drop hy)
theorem AllB.splice {l m : List Int} (h : AllB l) (o : Nat) (k : AllB m) : AllB (splice l o m) := (h.take o).app (k.app (h.drop _))
theorem AllB.rep (n : Nat) : AllB (List.replicate n 0) := by
 intro y hy
 rw [(List.mem_replicate.1 hy).2]
 omega
theorem AllB.getD {l : List Int} (h : AllB l) (i : Nat) : 0 ≤ l.getD i 0 ∧ l.getD i 0 < 256 := by
 rw [List.getD_eq_getElem?_getD]
 by_cases hi : i < l.length
 ·rw [List.getElem?_eq_getElem hi]
  exact h _ (List.getElem_mem hi)
 ·rw [List.getElem?_eq_none (by omega)]
  decide
theorem splice_len {α : Type} (l m : List α) (o : Nat) (h : o + m.length ≤ l.length) : (splice l o m).length = l.length := by
 unfold splice
 simp only [List.length_append, List.length_take, List.length_drop]
 omega
theorem splice_map {α β : Type} (f : α → β) (l m : List α) (o : Nat) : splice (l.map f) o (m.map f) = (splice l o m).map f := by
 unfold splice
 simp [List.map_take, List.map_drop]
theorem aff_b' : ∀ q : Fin 256, 0 ≤ affV ((q.val : Nat) : Int) ∧ affV ((q.val : Nat) : Int) < 256 := by decide +kernel
theorem aff_b (a : Int) (h : 0 ≤ a ∧ a < 256) : 0 ≤ affV a ∧ affV a < 256 := by
 obtain ⟨n, rfl⟩ := Int.eq_ofNat_of_zero_le h.1
 exact aff_b' ⟨n, by omega⟩
theorem dbl_b (a : Int) : 0 ≤ dblV a ∧ dblV a < 256 := by
 unfold dblV aes_double.f
 split
 ·show 0 ≤ (a * 2) % 256 ∧ (a * 2) % 256 < 256
  omega
 ·exact x8_b _ _
theorem boxO_b : ∀ i, AllB (boxO i)
 | 0 => by rw [boxO]; exact AllB.rep _
 | i + 1 => by rw [boxO]; exact (boxO_b i).set _ (aff_b _ (boxQ_b i))
theorem boxV_b : AllB boxV := by rw [boxV]; exact (boxO_b 255).set _ (aff_b 0 (by decide))
/-- The boxes are there. -/
def bxF (bs : List Int) : List Int := splice bs 16 boxV
/-- What is twice. -/
def twF (bs : List Int) : Nat → List Int
 | 0 => bs
 | n + 1 => (twF bs n).set (272 + n) (dblV (n : Int))
/-- The key's words. -/
def cpF (bs : List Int) : Nat → List Int
 | 0 => bs
 | n + 1 => splice (cpF bs n) (528 + 4 * n) [(cpF bs n).getD (4 * n) 0, (cpF bs n).getD (4 * n + 1) 0, (cpF bs n).getD (4 * n + 2) 0, (cpF bs n).getD (4 * n + 3) 0]
def w4 (bs : List Int) (i : Nat) : List Int := [bs.getD (528 + 4 * (i - 1)) 0, bs.getD (528 + 4 * (i - 1) + 1) 0, bs.getD (528 + 4 * (i - 1) + 2) 0, bs.getD (528 + 4 * (i - 1) + 3) 0]
def rotW (bs : List Int) (pw : Int) (w : List Int) : List Int := [x8 (bs.getD (16 + (w.getD 1 0).toNat) 0) pw, bs.getD (16 + (w.getD 2 0).toNat) 0, bs.getD (16 + (w.getD 3 0).toNat) 0, bs.getD (16 + (w.getD 0 0).toNat) 0]
def wdF (bs : List Int) (pw : Int) (i : Nat) : List Int := if i % 4 = 0 then rotW bs pw (w4 bs i) else w4 bs i
def pwF (pw : Int) (i : Nat) : Int := if i % 4 = 0 then dblV pw else pw
def xoF (bs wd : List Int) (i : Nat) : Nat → List Int
 | 0 => bs
 | k + 1 => (xoF bs wd i k).set (528 + (4 * i + k)) (x8 ((xoF bs wd i k).getD (528 + (4 * (i - 4) + k)) 0) (wd.getD k 0))
def wsF (bs : List Int) : Nat → List Int × Int
 | 0 => (bs, 1)
 | n + 1 => (xoF (wsF bs n).1 (wdF (wsF bs n).1 (wsF bs n).2 (n + 4)) (n + 4) 4, pwF (wsF bs n).2 (n + 4))
/-- A cipher filled. -/
def fillV (bs : List Int) : List Int := (wsF (cpF (twF (bxF bs) 256) 4) 40).1
theorem bxF_ok {bs : List Int} (h : bs.length = 704 ∧ AllB bs) : (bxF bs).length = 704 ∧ AllB (bxF bs) :=
 ⟨by rw [bxF, splice_len _ _ _ (by rw [boxV_len]; omega)]; exact h.1, h.2.splice _ boxV_b⟩
theorem twF_ok {bs : List Int} (h : bs.length = 704 ∧ AllB bs) : ∀ n, (twF bs n).length = 704 ∧ AllB (twF bs n)
 | 0 => h
 | n + 1 => ⟨by rw [twF, List.length_set]; exact (twF_ok h n).1, by rw [twF]; exact (twF_ok h n).2.set _ (dbl_b _)⟩
theorem AllB.four {a b c d : Int} (ha : 0 ≤ a ∧ a < 256) (hb : 0 ≤ b ∧ b < 256) (hc : 0 ≤ c ∧ c < 256) (hd : 0 ≤ d ∧ d < 256) : AllB [a, b, c, d] := by
 intro y hy
 simp only [List.mem_cons, List.not_mem_nil, or_false] at hy
 rcases hy with rfl | rfl | rfl | rfl <;> assumption
theorem cpF_ok {bs : List Int} (h : bs.length = 704 ∧ AllB bs) : ∀ n, n ≤ 4 → (cpF bs n).length = 704 ∧ AllB (cpF bs n)
 | 0, _ => h
 | n + 1, hn => by
  have ih := cpF_ok h n (by omega)
  exact ⟨by rw [cpF, splice_len _ _ _ (by rw [ih.1]; show 528 + 4 * n + 4 ≤ 704; omega)]; exact ih.1, by rw [cpF]; exact ih.2.splice _ (AllB.four (ih.2.getD _) (ih.2.getD _) (ih.2.getD _) (ih.2.getD _))⟩
theorem xoF_ok {bs wd : List Int} (i : Nat) (h : bs.length = 704 ∧ AllB bs) : ∀ k, (xoF bs wd i k).length = 704 ∧ AllB (xoF bs wd i k)
 | 0 => h
 | k + 1 => ⟨by rw [xoF, List.length_set]; exact (xoF_ok i h k).1, by rw [xoF]; exact (xoF_ok i h k).2.set _ (x8_b _ _)⟩
theorem wsF_ok {bs : List Int} (h : bs.length = 704 ∧ AllB bs) : ∀ n, (wsF bs n).1.length = 704 ∧ AllB (wsF bs n).1
 | 0 => h
 | n + 1 => xoF_ok _ (wsF_ok h n) 4
theorem w4_b {bs : List Int} (h : AllB bs) (i : Nat) : AllB (w4 bs i) := AllB.four (h.getD _) (h.getD _) (h.getD _) (h.getD _)
theorem wdF_len (bs : List Int) (pw : Int) (i : Nat) : (wdF bs pw i).length = 4 := by
 unfold wdF
 split <;> rfl
theorem fillV_ok {bs : List Int} (h : bs.length = 704 ∧ AllB bs) : (fillV bs).length = 704 ∧ AllB (fillV bs) := wsF_ok (cpF_ok (twF_ok (bxF_ok h) 256) 4 (Nat.le_refl _)) 40
theorem wsF_zero (bs : List Int) : wsF bs 0 = (bs, 1) := rfl
theorem wsF_succ (bs : List Int) (n : Nat) : wsF bs (n + 1) = (xoF (wsF bs n).1 (wdF (wsF bs n).1 (wsF bs n).2 (n + 4)) (n + 4) 4, pwF (wsF bs n).2 (n + 4)) := rfl
theorem twF_zero (bs : List Int) : twF bs 0 = bs := rfl
theorem twF_succ (bs : List Int) (n : Nat) : twF bs (n + 1) = (twF bs n).set (272 + n) (dblV (n : Int)) := rfl
theorem fillV_eq (bs : List Int) : fillV bs = (wsF (cpF (twF (bxF bs) 256) 4) 40).1 := rfl
attribute [irreducible] fillV wsF twF
/-- A part of a cipher's bytes. -/
theorem cipC_splice (d st r : Int) (bs m : List Int) (o : Nat) (h : o + m.length ≤ bs.length) : splice (cipC d st bs r) (4 + o) (m.map (Value.int .u8)) = cipC d st (splice bs o m) r := by
 unfold splice cipC
 rw [show 4 + o = o + 1 + 1 + 1 + 1 by omega]
 simp only [List.take_succ_cons, List.length_map]
 rw [show o + 1 + 1 + 1 + 1 + m.length = (o + m.length) + 1 + 1 + 1 + 1 by omega]
 simp only [List.drop_succ_cons, List.cons_append]
 rw [List.take_append_of_le_length (by rw [List.length_map]; omega), List.drop_append_of_le_length (by rw [List.length_map]; omega)]
 simp [List.map_take, List.map_drop]
theorem CipAt.range {w : World} {g : Nat} {d st r : Int} {bs : List Int} (h : CipAt w g d st bs r) (o : Nat) (a0 a1 a2 a3 : Int) (hl : o + 4 ≤ bs.length) (h0 : bs.getD o 0 = a0) (h1 : bs.getD (o + 1) 0 = a1) (h2 : bs.getD (o + 2) 0 = a2) (h3 : bs.getD (o + 3) 0 = a3) : w.rangeAt g (4 + o) [.int .u8 a0, .int .u8 a1, .int .u8 a2, .int .u8 a3] := by
 intro j v hv
 match j, hv with
 | 0, hv => cases hv; rw [← h0]; exact h.cell o (by omega)
 | 1, hv => cases hv; rw [← h1]; exact h.cell (o + 1) (by omega)
 | 2, hv => cases hv; rw [← h2]; exact h.cell (o + 2) (by omega)
 | 3, hv => cases hv; rw [← h3]; exact h.cell (o + 3) (by omega)
/-- copy into a part of a block, as a step of a region that draws. -/
theorem step_copy_fr {P : Program} {ops : Array Oper} {o : Oper} {a : Act} {w : World} {K : Act → World → Prop} {Q : Exit → Act → World → Prop} {E : Prop} (hgd : o.guard = none) (d s : Operand) (dT sT : TypeId)
  (ho : o.op = .call { callee := .builtin .copy, args := #[d, s], argTypes := #[dT, sT] }) (elem : TypeId) (hu : P.underlying dT = some (.slice elem)) (hsz : (P.info? elem).map (·.size) = some 1)
  (dLen dCap sLen sCap : Nat) (g off : Nat) (ad : Addr) (hd : a.eval d = .slice (some ⟨g, off, none⟩) dLen dCap) (hs : a.eval s = .slice (some ad) sLen sCap)
  (cur : List Value) (t : TypeId) (hg : w.heap[g]? = some (.cells cur.toArray t (0, 0))) (cs : List Value) (hn : cs.length = Nat.min sLen dLen)
  (hsrc : ∀ j v, cs[j]? = some v → w.cell? (ad.add j) = some v)
  (hfit : off + cs.length ≤ cur.length) (h1 : ∀ v ∈ cs, v.oneCell' = true)
  (h : ∀ w', w'.heap[g]? = some (.cells (splice cur off cs).toArray t (0, 0)) → Fr w w' (fun k => k = g) → K (a.put o.dst (goInt cs.length)) w') :
  if Region.wanted o (yielded ops a.tmps) = true then Oper.wp P o a w K Q else E := by
 have hw : Region.wanted o (yielded ops a.tmps) = true := by simp [Region.wanted, hgd]
 rw [if_pos hw]
 have hrun := run_copy_row (P := P) w dT sT o.type elem g off dLen dCap ad sLen sCap cur.toArray t cs hu hsz hg hn hsrc (by simpa using hfit) h1
 unfold Oper.wp
 simp [execOp, ho, resolve, invoke, builtin, hd, hs, hrun, Result.andThen]
 exact h _ (show _ = _ by simpa [splice] using setRow_heap w g _ _ t _ hg) ⟨rfl, rfl, rfl, by simp [World.setRow], fun k _ hk => setRow_other w g k _ hk⟩
end Go.Proofs.YteadamkkbgnpeaaGreat.A
end OfA3
