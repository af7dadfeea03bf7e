/- TopCarried: what the law stands on, part 2. No condition. -/
import Derived.Test.YteadamkkbgnpeaaGreatT01
import Derived.ChangeAlike
import Derived.Defers
import Derived.Laws.LoneSync
import Derived.Laws.NewBlocks
import Derived.Laws.Pointers
import Derived.Lib.AppendZeros
import Derived.Lib.BufferMore
import Derived.RegionCalls
import Derived.RegionTactic
import Derived.Tactics
import Derived.Tactics2
section OfA4
set_option linter.unusedVariables false
set_option linter.unusedSimpArgs false
namespace Go.Proofs.YteadamkkbgnpeaaGreat.A
open Go.RowKit YteadamkkbgnpeaaGreatW.PrintLast B S QTC YteadamkkbgnpeaaGreatW.PrintWords YteadamkkbgnpeaaGreatW.PrintMore
theorem cipC_len (d st : Int) (bs : List Int) (r : Int) : (cipC d st bs r).length = bs.length + 5 := by simp [cipC]
def A_fill.T4 : Bool × List (List Nat × List Nat) := (true, [([], []), ([], []), ([], []), ([2], [2]), ([3], [3]), ([0], [0]), ([5], [5]), ([6, 1, 0, 1, 2, 3, 4], [1, 6]), ([7, 4, 4, 0, 1, 2, 3, 4], [4, 7])])
def A_fill.B4 : List Nat := [0, 0, 0, 4, 12, 1, 33, 127, 255]
theorem A_fill.tab4 : rtab .any (opsOf Tryz.f92 4) = A_fill.T4 := by kernel_rfl
theorem A_fill.bits4 : waitsOk A_fill.T4.2 A_fill.B4 = true := by kernel_rfl
def A_fill.T9 : Bool × List (List Nat × List Nat) := (true, [([], []), ([], []), ([0], [0]), ([2], [2]), ([3, 1], [1, 3]), ([4], [4]), ([], []), ([6], [6]), ([7], [7]), ([], []), ([9], [9]), ([8, 10], [8, 10]), ([5, 11], [5, 11])])
def A_fill.B9 : List Nat := [0, 0, 1, 5, 15, 31, 0, 64, 192, 0, 512, 1984, 4095]
theorem A_fill.tab9 : rtab .any (opsOf Tryz.f92 9) = A_fill.T9 := by kernel_rfl
theorem A_fill.bits9 : waitsOk A_fill.T9.2 A_fill.B9 = true := by kernel_rfl
def A_fill.T17 : Bool × List (List Nat × List Nat) := (true, [([], []), ([], []), ([1], [1]), ([0], [0]), ([3], [3]), ([4, 2], [2, 4]), ([5], [5]), ([], []), ([6, 7], [6, 7]), ([], []), ([], []), ([10], [10]), ([9], [9]), ([12], [12]), ([13, 11], [11, 13]), ([14], [14]), ([], []), ([], []), ([17], [17]), ([16], [16]), ([19], [19]), ([20, 18], [18, 20]), ([21], [21]), ([], []), ([], []), ([24], [24]), ([23], [23]), ([26], [26]), ([27, 25], [25, 27]), ([28], [28]), ([8, 15, 22, 29], [8, 15, 22, 29]), ([30, 0, 1, 2, 3, 4, 5, 6, 7, 8, 9, 10, 11, 12, 13, 14, 15, 16, 17, 18, 19, 20, 21, 22, 23, 24, 25, 26, 27, 28, 29, 30], [30])])
def A_fill.B17 : List Nat := [0, 0, 2, 1, 9, 31, 63, 0, 255, 0, 0, 1024, 512, 4608, 15872, 32256, 0, 0, 131072, 65536, 589824, 2031616, 4128768, 0, 0, 16777216, 8388608, 75497472, 260046848, 528482304, 1073741823, 2147483647]
theorem A_fill.tab17 : rtab .any (opsOf Tryz.f92 17) = A_fill.T17 := by kernel_rfl
theorem A_fill.bits17 : waitsOk A_fill.T17.2 A_fill.B17 = true := by kernel_rfl
def A_fill.T22 : Bool × List (List Nat × List Nat) := (true, [([], []), ([], []), ([], []), ([], []), ([], []), ([4], [4]), ([], []), ([3], [3]), ([7], [7]), ([8, 5], [5, 8]), ([9, 6], [6, 9]), ([10], [10]), ([], []), ([12], [12]), ([13], [13]), ([11, 14], [11, 14]), ([0], [0]), ([16], [16]), ([17, 1], [1, 17]), ([18, 2, 0, 1, 2, 3, 4, 5, 6, 7, 8, 9, 10, 11, 12, 13, 14, 15], [2, 18]), ([19, 15, 0, 1, 2, 3, 4, 5, 6, 7, 8, 9, 10, 11, 12, 13, 14, 15], [15, 19])])
def A_fill.B22 : List Nat := [0, 0, 0, 0, 0, 16, 0, 8, 136, 440, 1016, 2040, 0, 4096, 12288, 32760, 1, 65537, 196611, 524287, 1048575]
theorem A_fill.tab22 : rtab .any (opsOf Tryz.f92 22) = A_fill.T22 := by kernel_rfl
theorem A_fill.bits22 : waitsOk A_fill.T22.2 A_fill.B22 = true := by kernel_rfl
set_option maxHeartbeats 8000000 in
set_option maxRecDepth 100000 in
theorem fill_calls (g : Nat) (d st r : Int) (bs : List Int) (hb : bs.length = 704 ∧ AllB bs) (w : World) (hs : CipAt w g d st bs r) :
  Calls Tryz.prog 92 #[.pointer (some ⟨g, 0, none⟩)] w fun e w' => e = .returned (.tuple #[]) ∧ CipAt w' g d st (fillV bs) r ∧ Fr w w' (fun k => k = g) := by
 have HS := Aside0.mk hs
 have HL := Aside0.mk hb
 clear hs hb
 go_enter Tryz.func92, Tryz.ntmps92
 go_wp2_with (first
  | (go_at_call 103; refine (boxes_calls _).mono ?_; rintro e w1 ⟨rfl, hw⟩; have HS1 := Aside0.mk (HS.out.below hw); have HF1 := Aside0.mk ((Fr.refl w (fun k => k = g)).then_below hw); clear hw)
  | (refine store_part (t := 143) (e := 149) (g := g) (off := 20) (cur := cipC d st bs r) (cells := u8s boxV) rfl rfl rfl rfl rfl HS1.out (by rw [u8s_size, boxV_len]; exact size143) (by rw [u8s_size, boxV_len, cipC_len, HL.out.1]; decide) (u8s_one _) ?_; intro w2 hb hf; have HS2 : Aside0 (CipAt w2 g d st (twF (bxF bs) 0) r) := ⟨by have := cipC_splice d st r bs boxV 16 (by rw [boxV_len, HL.out.1]; decide); unfold u8s at hb; rw [show (20 : Nat) = 4 + 16 from rfl, this] at hb; rw [twF_zero]; exact hb⟩; have HF2 := Aside0.mk (HF1.out.trans hf (fun k e => .inl e)); clear hb hf))
 have HL2 : Aside0 ((bxF bs).length = 704 ∧ AllB (bxF bs)) := ⟨bxF_ok HL.out⟩
 obtain ⟨b1, hb1⟩ : ∃ b1, bxF bs = b1 := ⟨_, rfl⟩
 rw [hb1] at HS2 HL2
 have HB1 := Aside0.mk hb1
 clear hb1 HS1 HF1
 go_loopg [12] 257 (fun kq v12 w' => ∃ i : Nat, v12 = .int .i64 (i : Int) ∧ Aside0 (kq = 257 - i ∧ i ≤ 256) ∧ Aside0 (CipAt w' g d st (twF b1 i) r) ∧ Aside0 (Fr w w' (fun k => k = g)))
 case atStart => exact ⟨0, by first | rfl | simp, ⟨by omega⟩, HS2, HF2⟩
 case round =>
  obtain ⟨i, rfl, HK, HS3, HF3⟩ := hrel
  clear HS2 HF2
  by_cases c1 : (i : Int) < 256
  ·have c1b : decide ((i : Int) < 256) = true := decide_eq_true c1
   have hix := eq_true c1
   have hi0 := eq_true (show (0 : Int) ≤ (i : Int) by omega)
   have HI : Aside0 (i < 256) := ⟨by omega⟩
   have hcv : (i : Int) % 256 = (i : Int) := by omega
   have hcw : IntKind.u8.wrap (i : Int) = (i : Int) := by rw [IntKind.wrap_u8]; omega
   clear c1
   go_wp2
   have HX1 : Aside0 (CipAt wr.drew g d st (twF b1 i) r) := ⟨HS3.out⟩
   have HF1 : Aside0 (Fr w wr.drew (fun k => k = g)) := ⟨HF3.out.drew⟩
   refine start_ (n := 9) (S := fun w' => True) (ds := [8]) #[false, false, false, false, false, false, false, false, false] (by kernel_rfl) rfl rfl trivial (fun hHeld => ?_)
   refine with_tabW A_fill.tab4 A_fill.bits4 (fun HT_ HW_ => ?_)
   generalize wr.drew = x1 at HX1 HF1 hHeld ⊢
   refine pure_ (i := 0) (N := some 15) (v := ?_) (a' := ?_) #[true, false, false, false, false, false, false, false, false] rfl rfl (any_of HT_.out (by kernel_rfl)) (fun _ _ _ h => h) (Or.inl ⟨by rfl, ?_⟩) ?_ ?_
   rotate_left
   ·intro w'
    go_simp
    with_reducible rfl
   rotate_left
   ·simp only [Act.put, List.setIfInBounds_toArray, List.set_cons_zero, List.set_cons_succ, i64_w, i32_w]
    rfl
   refine pure_ (i := 1) (N := some 16) (v := ?_) (a' := ?_) #[true, true, false, false, false, false, false, false, false] rfl rfl (any_of HT_.out (by kernel_rfl)) (fun _ _ _ h => h) (Or.inl ⟨by rfl, ?_⟩) ?_ ?_
   rotate_left
   ·intro w'
    go_simp
    with_reducible rfl
   rotate_left
   ·simp only [Act.put, List.setIfInBounds_toArray, List.set_cons_zero, List.set_cons_succ, i64_w, i32_w]
    rfl
   refine pure_ (i := 2) (N := some 17) (v := ?_) (a' := ?_) #[true, true, true, false, false, false, false, false, false] rfl rfl (any_of HT_.out (by kernel_rfl)) (fun _ _ _ h => h) (Or.inl ⟨by rfl, ?_⟩) ?_ ?_
   rotate_left
   ·intro w'
    go_simp
    with_reducible rfl
   rotate_left
   ·simp only [Act.put, List.setIfInBounds_toArray, List.set_cons_zero, List.set_cons_succ, i64_w, i32_w]
    rfl
   refine pure_ (i := 3) (N := some 18) (v := ?_) (a' := ?_) #[true, true, true, true, false, false, false, false, false] rfl rfl (any_of HT_.out (by kernel_rfl)) (fun _ _ _ h => h) (Or.inl ⟨by rfl, ?_⟩) ?_ ?_
   rotate_left
   ·intro w'
    go_simp
    with_reducible rfl
   rotate_left
   ·simp only [Act.put, List.setIfInBounds_toArray, List.set_cons_zero, List.set_cons_succ, i64_w, i32_w]
    rfl
   refine pure_ (i := 5) (N := some 20) (v := ?_) (a' := ?_) #[true, true, true, true, false, true, false, false, false] rfl rfl (any_of HT_.out (by kernel_rfl)) (fun _ _ _ h => h) (Or.inl ⟨by rfl, ?_⟩) ?_ ?_
   rotate_left
   ·intro w'
    go_simp
    with_reducible rfl
   rotate_left
   ·simp only [Act.put, List.setIfInBounds_toArray, List.set_cons_zero, List.set_cons_succ, i64_w, i32_w]
    rfl
   refine pure_ (i := 6) (N := some 21) (v := ?_) (a' := ?_) #[true, true, true, true, false, true, true, false, false] rfl rfl (any_of HT_.out (by kernel_rfl)) (fun _ _ _ h => h) (Or.inl ⟨by rfl, ?_⟩) ?_ ?_
   rotate_left
   ·intro w'
    go_simp
    with_reducible rfl
   rotate_left
   ·simp only [Act.put, List.setIfInBounds_toArray, List.set_cons_zero, List.set_cons_succ, i64_w, i32_w]
    rfl
   refine one_ (i := 4) (N := some 19) #[true, true, true, true, true, true, true, false, false] rfl rfl (one_of HT_.out (by kernel_rfl)) (by decide) (fun K hK => ?_)
   refine goes_ Tryz.func104 (by kernel_rfl) rfl #[.int .u8 (i : Int)] (by rfl) rfl rfl (by simp only [List.map_toArray, List.map_cons, List.map_nil]; rfl) ?_
   with_reducible refine (aes_double.calls (i : Int) (dblV (i : Int)) _ (dbl_some _)).mono ?_
   rintro e x2 ⟨rfl, hd⟩
   refine ⟨_, rfl, ?_⟩
   have HX2 := Aside0.mk (HX1.out.below hd.below)
   have HF_2 := Aside0.mk (HF1.out.then_below hd.below)
   clear hd
   refine hK.out _ _ trivial (fun hHeld => ?_)
   clear hK K
   refine norm_ (a' := ?_) ?_ ?_
   rotate_left
   ·show Act.put _ (some 19) _ = _
    simp only [Act.put, List.setIfInBounds_toArray, List.set_cons_zero, List.set_cons_succ, i64_w, i32_w]
    rfl
   refine pure_ (i := 7) (N := some 22) (v := ?_) (a' := ?_) #[true, true, true, true, true, true, true, true, false] rfl rfl (any_of HT_.out (by kernel_rfl)) (fun _ _ _ h => h) (Or.inl ⟨by rfl, ?_⟩) ?_ ?_
   rotate_left
   ·intro w'
    go_simp
    with_reducible rfl
   rotate_left
   ·simp only [Act.put, List.setIfInBounds_toArray, List.set_cons_zero, List.set_cons_succ, i64_w, i32_w]
    rfl
   refine last_ (i := 8) (N := none) #[true, true, true, true, true, true, true, true, true] rfl rfl (one_of HT_.out (by kernel_rfl)) (by decide) (fun K hK => ?_)
   have hcs := HX2.out.cell (272 + i) (by rw [(twF_ok HL2.out i).1]; have := HI.out; omega)
   rw [show 4 + (272 + i) = 276 + i by omega] at hcs
   have hfs := HX2.out.fz (276 + i)
   refine skip_ (w1 := World.setCell x2 ⟨g, 276 + i, none⟩ (.int .u8 (dblV (i : Int)))) (by rfl) rfl ?_ ?_
   ·go_simp
   have HX3 : Aside0 (CipAt (World.setCell x2 ⟨g, 276 + i, none⟩ (.int .u8 (dblV (i : Int)))) g d st ((twF b1 i).set (272 + i) (dblV (i : Int))) r) := ⟨by have := HX2.out.set (272 + i) (dblV (i : Int)) (by rw [(twF_ok HL2.out i).1]; have := HI.out; omega); rw [show 4 + (272 + i) = 276 + i by omega] at this; exact this⟩
   have HF_3 := Aside0.mk (HF_2.out.setCell (p := ⟨g, 276 + i, none⟩) (.inl rfl) (.int .u8 (dblV (i : Int))))
   generalize World.setCell x2 ⟨g, 276 + i, none⟩ (.int .u8 (dblV (i : Int))) = x3 at HX3 HF_3 ⊢
   refine hK.out _ _ ?_
   clear hK K
   refine done_ (done_of HT_.out (by kernel_rfl)) ?_

   go_wp2
   go_roundg (gk - 1)
   case measure => have := HK.out; have := HI.out; omega
   case rel =>
    refine ⟨i + 1, ?_, ⟨by have := HK.out; have := HI.out; omega⟩, ⟨by rw [twF_succ]; exact HX3.out⟩, HF_3⟩
    have := HI.out
    first
    | rfl
    | (congr 1; unfold wrap64; omega)
    | (congr 1; done)
  ·have hi : i = 256 := by have := HK.out; omega
   have c1b : decide ((i : Int) < 256) = false := decide_eq_false c1
   clear c1
   subst hi
   have HL3 : Aside0 ((twF b1 256).length = 704 ∧ AllB (twF b1 256)) := ⟨twF_ok HL2.out 256⟩
   obtain ⟨b2, hb2⟩ : ∃ b2, twF b1 256 = b2 := ⟨_, rfl⟩
   rw [hb2] at HS3 HL3
   have HB2 := Aside0.mk hb2
   clear hb2 HK
   go_wp2
   go_loopg [24] 5 (fun kq v24 w' => ∃ i : Nat, v24 = .int .i64 (i : Int) ∧ Aside0 (kq = 5 - i ∧ i ≤ 4) ∧ Aside0 (CipAt w' g d st (cpF b2 i) r) ∧ Aside0 (Fr w w' (fun k => k = g)))
   case atStart => exact ⟨0, by first | rfl | simp, ⟨by omega⟩, HS3, HF3⟩
   case round =>
    obtain ⟨i, rfl, HK, HS4, HF4⟩ := hrel
    clear HS3 HF3
    by_cases c1 : (i : Int) < 4
    ·have c1b : decide ((i : Int) < 4) = true := decide_eq_true c1
     have hix := eq_true c1
     have hi0 := eq_true (show (0 : Int) ≤ (i : Int) by omega)
     have HI : Aside0 (i < 4) := ⟨by omega⟩
     obtain ⟨n4, hn4⟩ : ∃ n, 4 * i = n := ⟨_, rfl⟩
     have hn16 : (16 = n4) = False := eq_false (by omega)
     have hi44 := eq_true (show (i : Int) < 44 by omega)
     have e4 : wrap64 (4 * (i : Int)) = (n4 : Int) := by rw [← hn4]; unfold wrap64; omega
     have n40 := eq_true (Int.natCast_nonneg n4)
     have n41 := eq_true (show (n4 : Int) ≤ 16 by omega)
     have HN := Aside0.mk hn4
     clear c1 hn4
     go_wp2
     have HX1 : Aside0 (CipAt wr.drew g d st (cpF b2 i) r) := ⟨HS4.out⟩
     have HF1 : Aside0 (Fr w wr.drew (fun k => k = g)) := ⟨HF4.out.drew⟩
     refine start_ (n := 13) (S := fun w' => True) (ds := []) #[false, false, false, false, false, false, false, false, false, false, false, false, false] (by kernel_rfl) rfl rfl trivial (fun hHeld => ?_)
     refine with_tabW A_fill.tab9 A_fill.bits9 (fun HT_ HW_ => ?_)
     generalize wr.drew = x1 at HX1 HF1 hHeld ⊢
     refine pure_ (i := 0) (N := some 27) (v := ?_) (a' := ?_) #[true, false, false, false, false, false, false, false, false, false, false, false, false] rfl rfl (any_of HT_.out (by kernel_rfl)) (fun _ _ _ h => h) (Or.inl ⟨by rfl, ?_⟩) ?_ ?_
     rotate_left
     ·intro w'
      go_simp
      with_reducible rfl
     rotate_left
     ·simp only [Act.put, List.setIfInBounds_toArray, List.set_cons_zero, List.set_cons_succ, i64_w, i32_w]
      rfl
     refine pure_ (i := 1) (N := some 28) (v := ?_) (a' := ?_) #[true, true, false, false, false, false, false, false, false, false, false, false, false] rfl rfl (any_of HT_.out (by kernel_rfl)) (fun _ _ _ h => h) (Or.inl ⟨by rfl, ?_⟩) ?_ ?_
     rotate_left
     ·intro w'
      go_simp
      with_reducible rfl
     rotate_left
     ·simp only [Act.put, List.setIfInBounds_toArray, List.set_cons_zero, List.set_cons_succ, i64_w, i32_w]
      rfl
     refine pure_ (i := 2) (N := some 29) (v := ?_) (a' := ?_) #[true, true, true, false, false, false, false, false, false, false, false, false, false] rfl rfl (any_of HT_.out (by kernel_rfl)) (fun _ _ _ h => h) (Or.inl ⟨by rfl, ?_⟩) ?_ ?_
     rotate_left
     ·intro w'
      go_simp
      with_reducible rfl
     rotate_left
     ·simp only [Act.put, List.setIfInBounds_toArray, List.set_cons_zero, List.set_cons_succ, i64_w, i32_w]
      rfl
     refine pure_ (i := 3) (N := some 30) (v := ?_) (a' := ?_) #[true, true, true, true, false, false, false, false, false, false, false, false, false] rfl rfl (any_of HT_.out (by kernel_rfl)) (fun _ _ _ h => h) (Or.inl ⟨by rfl, ?_⟩) ?_ ?_
     rotate_left
     ·intro w'
      go_simp
      with_reducible rfl
     rotate_left
     ·simp only [Act.put, List.setIfInBounds_toArray, List.set_cons_zero, List.set_cons_succ, i64_w, i32_w]
      rfl
     refine pure_ (i := 4) (N := some 31) (v := ?_) (a' := ?_) #[true, true, true, true, true, false, false, false, false, false, false, false, false] rfl rfl (any_of HT_.out (by kernel_rfl)) (fun _ _ _ h => h) (Or.inl ⟨by rfl, ?_⟩) ?_ ?_
     rotate_left
     ·intro w'
      go_simp
      with_reducible rfl
     rotate_left
     ·simp only [Act.put, List.setIfInBounds_toArray, List.set_cons_zero, List.set_cons_succ, i64_w, i32_w]
      rfl
     refine pure_ (i := 5) (N := some 32) (v := ?_) (a' := ?_) #[true, true, true, true, true, true, false, false, false, false, false, false, false] rfl rfl (any_of HT_.out (by kernel_rfl)) (fun _ _ _ h => h) (Or.inl ⟨by rfl, ?_⟩) ?_ ?_
     rotate_left
     ·intro w'
      go_simp
      with_reducible rfl
     rotate_left
     ·simp only [Act.put, List.setIfInBounds_toArray, List.set_cons_zero, List.set_cons_succ, i64_w, i32_w]
      rfl
     refine pure_ (i := 6) (N := some 33) (v := ?_) (a' := ?_) #[true, true, true, true, true, true, true, false, false, false, false, false, false] rfl rfl (any_of HT_.out (by kernel_rfl)) (fun _ _ _ h => h) (Or.inl ⟨by rfl, ?_⟩) ?_ ?_
     rotate_left
     ·intro w'
      go_simp
      with_reducible rfl
     rotate_left
     ·simp only [Act.put, List.setIfInBounds_toArray, List.set_cons_zero, List.set_cons_succ, i64_w, i32_w]
      rfl
     refine pure_ (i := 7) (N := some 34) (v := ?_) (a' := ?_) #[true, true, true, true, true, true, true, true, false, false, false, false, false] rfl rfl (any_of HT_.out (by kernel_rfl)) (fun _ _ _ h => h) (Or.inl ⟨by rfl, ?_⟩) ?_ ?_
     rotate_left
     ·intro w'
      go_simp
      with_reducible rfl
     rotate_left
     ·simp only [Act.put, List.setIfInBounds_toArray, List.set_cons_zero, List.set_cons_succ, i64_w, i32_w]
      rfl
     refine pure_ (i := 8) (N := some 35) (v := ?_) (a' := ?_) #[true, true, true, true, true, true, true, true, true, false, false, false, false] rfl rfl (any_of HT_.out (by kernel_rfl)) (fun _ _ _ h => h) (Or.inl ⟨by rfl, ?_⟩) ?_ ?_
     rotate_left
     ·intro w'
      go_simp
      with_reducible rfl
     rotate_left
     ·simp only [Act.put, List.setIfInBounds_toArray, List.set_cons_zero, List.set_cons_succ, i64_w, i32_w]
      rfl
     refine pure_ (i := 9) (N := some 36) (v := ?_) (a' := ?_) #[true, true, true, true, true, true, true, true, true, true, false, false, false] rfl rfl (any_of HT_.out (by kernel_rfl)) (fun _ _ _ h => h) (Or.inl ⟨by rfl, ?_⟩) ?_ ?_
     rotate_left
     ·intro w'
      go_simp
      with_reducible rfl
     rotate_left
     ·simp only [Act.put, List.setIfInBounds_toArray, List.set_cons_zero, List.set_cons_succ, i64_w, i32_w]
      rfl
     refine pure_ (i := 10) (N := some 37) (v := ?_) (a' := ?_) #[true, true, true, true, true, true, true, true, true, true, true, false, false] rfl rfl (any_of HT_.out (by kernel_rfl)) (fun _ _ _ h => h) (Or.inl ⟨by rfl, ?_⟩) ?_ ?_
     rotate_left
     ·intro w'
      go_simp
      with_reducible rfl
     rotate_left
     ·simp only [Act.put, List.setIfInBounds_toArray, List.set_cons_zero, List.set_cons_succ, i64_w, i32_w]
      rfl
     refine pure_ (i := 11) (N := some 38) (v := ?_) (a' := ?_) #[true, true, true, true, true, true, true, true, true, true, true, true, false] rfl rfl (any_of HT_.out (by kernel_rfl)) (fun _ _ _ h => h) (Or.inl ⟨by rfl, ?_⟩) ?_ ?_
     rotate_left
     ·intro w'
      go_simp
      with_reducible rfl
     rotate_left
     ·simp only [Act.put, List.setIfInBounds_toArray, List.set_cons_zero, List.set_cons_succ, i64_w, i32_w]
      rfl
     refine one_ (i := 12) (N := some 39) #[true, true, true, true, true, true, true, true, true, true, true, true, true] rfl rfl (one_of HT_.out (by kernel_rfl)) (by decide) (fun K hK => ?_)
     refine step_copy_fr rfl (.tmp 32) (.tmp 38) 22 22 rfl 5 Tryz.underlying22 size5 4 4 (16 - n4) (16 - n4) g (532 + i * 4) ⟨g, 4 + n4, none⟩ (by rfl) (by rfl) (cipC d st (cpF b2 i) r) 149 HX1.out ([(cpF b2 i).getD n4 0, (cpF b2 i).getD (n4 + 1) 0, (cpF b2 i).getD (n4 + 2) 0, (cpF b2 i).getD (n4 + 3) 0].map (Value.int .u8)) (by have := HI.out; have := HN.out; show 4 = min (16 - n4) 4; omega) (by intro j v hv; rw [Addr.add_mid]; exact HX1.out.range n4 _ _ _ _ (by rw [(cpF_ok HL3.out i (by have := HI.out; omega)).1]; have := HI.out; have := HN.out; omega) rfl rfl rfl rfl j v hv) (by rw [cipC_len, (cpF_ok HL3.out i (by have := HI.out; omega)).1]; show 532 + i * 4 + 4 ≤ 709; have := HI.out; omega) (by intro v hv; simp at hv; rcases hv with rfl | rfl | rfl | rfl <;> rfl) ?_
     intro x2 hb hf
     have HF_2 := Aside0.mk (HF1.out.trans hf (fun k e => .inl e))
     have HX2 : Aside0 (CipAt x2 g d st (splice (cpF b2 i) (528 + n4) [(cpF b2 i).getD n4 0, (cpF b2 i).getD (n4 + 1) 0, (cpF b2 i).getD (n4 + 2) 0, (cpF b2 i).getD (n4 + 3) 0]) r) := ⟨by have e := cipC_splice d st r (cpF b2 i) [(cpF b2 i).getD n4 0, (cpF b2 i).getD (n4 + 1) 0, (cpF b2 i).getD (n4 + 2) 0, (cpF b2 i).getD (n4 + 3) 0] (528 + n4) (by rw [(cpF_ok HL3.out i (by have := HI.out; omega)).1]; show 528 + n4 + 4 ≤ 704; have := HI.out; have := HN.out; omega); rw [show 532 + i * 4 = 4 + (528 + n4) by have := HN.out; omega, e] at hb; exact hb⟩
     clear hb hf
     refine hK.out _ _ trivial (fun hHeld => ?_)
     clear hK K
     refine norm_ (a' := ?_) ?_ ?_
     rotate_left
     ·show Act.put _ (some 39) _ = _
      simp only [Act.put, List.setIfInBounds_toArray, List.set_cons_zero, List.set_cons_succ, i64_w, i32_w]
      rfl
     refine done_ (done_of HT_.out (by kernel_rfl)) ?_

     go_wp2
     go_roundg (gk - 1)
     case measure => have := HK.out; have := HI.out; omega
     case rel =>
      refine ⟨i + 1, ?_, ⟨by have := HK.out; have := HI.out; omega⟩, ⟨by rw [cpF, HN.out]; exact HX2.out⟩, HF_2⟩
      have := HI.out
      first
      | rfl
      | (congr 1; unfold wrap64; omega)
      | (congr 1; done)
    ·have hi : i = 4 := by have := HK.out; omega
     have c1b : decide ((i : Int) < 4) = false := decide_eq_false c1
     clear c1
     subst hi
     have HL4 : Aside0 ((cpF b2 4).length = 704 ∧ AllB (cpF b2 4)) := ⟨cpF_ok HL3.out 4 (Nat.le_refl _)⟩
     obtain ⟨b3, hb3⟩ : ∃ b3, cpF b2 4 = b3 := ⟨_, rfl⟩
     rw [hb3] at HS4 HL4
     have HB3 := Aside0.mk hb3
     clear hb3 HK
     go_wp2
     go_loopg [4, 5] 41 (fun kq v4 v5 w' => ∃ n : Nat, v4 = .int .u8 (wsF b3 n).2 ∧ v5 = .int .i64 ((n + 4 : Nat) : Int) ∧ Aside0 (kq = 41 - n ∧ n ≤ 40) ∧ Aside0 (CipAt w' g d st (wsF b3 n).1 r) ∧ Aside0 (Fr w w' (fun k => k = g)))
     case atStart => exact ⟨0, by rw [wsF_zero], by first | rfl | simp, ⟨by omega⟩, ⟨by rw [wsF_zero]; exact HS4.out⟩, HF4⟩
     case round =>
      obtain ⟨n, rfl, rfl, HK, HS5, HF5⟩ := hrel
      clear HS4 HF4
      have HL5 : Aside0 ((wsF b3 n).1.length = 704 ∧ AllB (wsF b3 n).1) := ⟨wsF_ok HL4.out n⟩
      obtain ⟨bw, hbw⟩ : ∃ b, (wsF b3 n).1 = b := ⟨_, rfl⟩
      obtain ⟨pw, hpw⟩ : ∃ b, (wsF b3 n).2 = b := ⟨_, rfl⟩
      rw [hbw] at HS5 HL5
      rw [hpw]
      have HP := Aside0.mk (show (wsF b3 n).1 = bw ∧ (wsF b3 n).2 = pw from ⟨hbw, hpw⟩)
      clear hbw hpw
      obtain ⟨i, hi⟩ : ∃ i, n + 4 = i := ⟨_, rfl⟩
      rw [hi]
      have HI := Aside0.mk hi
      by_cases c1 : (i : Int) < 44
      ·have c1b : decide ((i : Int) < 44) = true := decide_eq_true c1
       have hix := eq_true c1
       have hi0 := eq_true (Int.natCast_nonneg i)
       obtain ⟨i1, hi1⟩ : ∃ j, i - 1 = j := ⟨_, rfl⟩
       have e1 : wrap64 ((i : Int) - 1) = (i1 : Int) := by unfold wrap64; omega
       have i10 := eq_true (Int.natCast_nonneg i1)
       have i11 := eq_true (show (i1 : Int) < 44 by omega)
       have HJ : Aside0 (i - 1 = i1 ∧ 4 ≤ i ∧ i < 44) := ⟨hi1, by omega, by omega⟩
       obtain ⟨x0, y0⟩ : ∃ x, bw.getD (528 + 4 * i1) 0 = x := ⟨_, rfl⟩
       obtain ⟨x1, y1⟩ : ∃ x, bw.getD (528 + 4 * i1 + 1) 0 = x := ⟨_, rfl⟩
       obtain ⟨x2, y2⟩ : ∃ x, bw.getD (528 + 4 * i1 + 2) 0 = x := ⟨_, rfl⟩
       obtain ⟨x3, y3⟩ : ∃ x, bw.getD (528 + 4 * i1 + 3) 0 = x := ⟨_, rfl⟩
       have HY : Aside0 (w4 bw i = [x0, x1, x2, x3]) := ⟨by unfold w4; rw [hi1, y0, y1, y2, y3]⟩
       have hrg := HS5.out.range (528 + 4 * i1) x0 x1 x2 x3 (by rw [HL5.out.1]; omega) y0 y1 y2 y3
       rw [show 4 + (528 + 4 * i1) = 532 + i1 * 4 by omega] at hrg
       have HRG := Aside0.mk hrg
       clear c1 hi hi1 y0 y1 y2 y3 hrg
       go_upto_if 54 with (first
        | ((with_reducible refine gate_dst (N := 51) rfl ?_); refine wpList_load_mid rfl 144 (.tmp 50) rfl g (532 + i1 * 4) rfl [.int .u8 x0, .int .u8 x1, .int .u8 x2, .int .u8 x3] _ HRG.out Tryz.underlying144 rfl size144 ?_)
        | ((with_reducible refine gate_dst (N := 6) rfl ?_); refine alloc_v rfl rfl info144 ?hr ?_; (case hr => rfl); intro gw hg w3 hb hw; have HS6 := Aside0.mk (HS5.out.below hw); have HF6 := Aside0.mk (HF5.out.then_below hw); have HG6 : Aside0 (g < gw ∧ w.heap.size ≤ gw) := ⟨by have := blk_lt HS5.out; have := HF5.out.size; omega⟩; have HA6 : Aside0 (ArrB w3 gw 144 (List.replicate 4 0)) := ⟨hb⟩; clear hb hw hg)
        | (refine store_row (t := 144) (e := 144) (g := gw) (cells := u8s [x0, x1, x2, x3]) rfl rfl rfl rfl rfl HA6.out size144 rfl (u8s_one _) ?_; intro w4_ hb hf; have HA7 : Aside0 (ArrB w4_ gw 144 (w4 bw i)) := ⟨by rw [HY.out]; exact hb⟩; have HS7 := Aside0.mk (HS6.out.fr hf (by have := HG6.out; show ¬ g = gw; omega)); have HF7 := Aside0.mk (HF6.out.trans hf (fun k e => .inr (by rw [e]; exact HG6.out.2))); clear hb hf))
       go_cut [4] (fun v4 wc => v4 = .int .u8 (pwF pw i) ∧ Aside0 (ArrB wc gw 144 (wdF bw pw i)) ∧ Aside0 (CipAt wc g d st bw r) ∧ Aside0 (Fr w wc (fun k => k = g)))
       case first =>
        by_cases c2 : i % 4 = 0
        ·have c2b : ((i : Int).tmod 4 == 0) = true := beq_iff_eq.mpr (by rw [Int.tmod_eq_emod_of_nonneg (by omega)]; omega)
         have HC2 := Aside0.mk c2
         have c2c : ((i : Int) % 4 == 0) = true := beq_iff_eq.mpr (by omega)
         have c2d : ((i % 4 : Nat) == 0) = true := beq_iff_eq.mpr (by omega)
         clear c2
         have hxb := w4_b HL5.out.2 i
         rw [HY.out] at hxb
         have b0 := hxb x0 (by simp)
         have b1_ := hxb x1 (by simp)
         have b2_ := hxb x2 (by simp)
         have b3_ := hxb x3 (by simp)
         obtain ⟨n0, rfl⟩ := Int.eq_ofNat_of_zero_le b0.1
         obtain ⟨n1, rfl⟩ := Int.eq_ofNat_of_zero_le b1_.1
         obtain ⟨n2, rfl⟩ := Int.eq_ofNat_of_zero_le b2_.1
         obtain ⟨n3, rfl⟩ := Int.eq_ofNat_of_zero_le b3_.1
         obtain ⟨z0, hz0⟩ : ∃ z, bw.getD (16 + n0) 0 = z := ⟨_, rfl⟩
         obtain ⟨z1, hz1⟩ : ∃ z, bw.getD (16 + n1) 0 = z := ⟨_, rfl⟩
         obtain ⟨z2, hz2⟩ : ∃ z, bw.getD (16 + n2) 0 = z := ⟨_, rfl⟩
         obtain ⟨z3, hz3⟩ : ∃ z, bw.getD (16 + n3) 0 = z := ⟨_, rfl⟩
         have q0 := HS7.out.cell (16 + n0) (by rw [HL5.out.1]; omega)
         have q1 := HS7.out.cell (16 + n1) (by rw [HL5.out.1]; omega)
         have q2 := HS7.out.cell (16 + n2) (by rw [HL5.out.1]; omega)
         have q3 := HS7.out.cell (16 + n3) (by rw [HL5.out.1]; omega)
         rw [hz0, show 4 + (16 + n0) = 20 + n0 by omega] at q0
         rw [hz1, show 4 + (16 + n1) = 20 + n1 by omega] at q1
         rw [hz2, show 4 + (16 + n2) = 20 + n2 by omega] at q2
         rw [hz3, show 4 + (16 + n3) = 20 + n3 by omega] at q3
         have HW4 : Aside0 (rotW bw pw (w4 bw i) = [x8 z1 pw, z2, z3, z0]) := ⟨by
          rw [HY.out]
          unfold rotW
          rw [show ([(n0 : Int), (n1 : Int), (n2 : Int), (n3 : Int)].getD 0 0) = (n0 : Int) from rfl, show ([(n0 : Int), (n1 : Int), (n2 : Int), (n3 : Int)].getD 1 0) = (n1 : Int) from rfl, show ([(n0 : Int), (n1 : Int), (n2 : Int), (n3 : Int)].getD 2 0) = (n2 : Int) from rfl, show ([(n0 : Int), (n1 : Int), (n2 : Int), (n3 : Int)].getD 3 0) = (n3 : Int) from rfl, Int.toNat_natCast, Int.toNat_natCast, Int.toNat_natCast, Int.toNat_natCast, hz0, hz1, hz2, hz3]⟩
         have m0 := eq_true (Int.natCast_nonneg n0)
         have m1 := eq_true (Int.natCast_nonneg n1)
         have m2 := eq_true (Int.natCast_nonneg n2)
         have m3 := eq_true (Int.natCast_nonneg n3)
         have o0 := eq_true b0.2
         have o1 := eq_true b1_.2
         have o2 := eq_true b2_.2
         have o3 := eq_true b3_.2
         have ha7 := HA7.out
         rw [HY.out] at ha7
         have P0 : Aside0 (w4_.drew.cell? ⟨gw, 0, none⟩ = some (.int .u8 (n0 : Int))) := ⟨ha7.cell 0 (by simp)⟩
         have P1 : Aside0 (w4_.drew.cell? ⟨gw, 1, none⟩ = some (.int .u8 (n1 : Int))) := ⟨ha7.cell 1 (by simp)⟩
         have P2 : Aside0 (w4_.drew.cell? ⟨gw, 2, none⟩ = some (.int .u8 (n2 : Int))) := ⟨ha7.cell 2 (by simp)⟩
         have P3 : Aside0 (w4_.drew.cell? ⟨gw, 3, none⟩ = some (.int .u8 (n3 : Int))) := ⟨ha7.cell 3 (by simp)⟩
         have Q0 : Aside0 (w4_.drew.cell? ⟨g, 20 + n0, none⟩ = some (.int .u8 z0)) := ⟨q0⟩
         have Q1 : Aside0 (w4_.drew.cell? ⟨g, 20 + n1, none⟩ = some (.int .u8 z1)) := ⟨q1⟩
         have Q2 : Aside0 (w4_.drew.cell? ⟨g, 20 + n2, none⟩ = some (.int .u8 z2)) := ⟨q2⟩
         have Q3 : Aside0 (w4_.drew.cell? ⟨g, 20 + n3, none⟩ = some (.int .u8 z3)) := ⟨q3⟩
         have HA8 : Aside0 (ArrB w4_.drew gw 144 [(n0 : Int), (n1 : Int), (n2 : Int), (n3 : Int)]) := ⟨ha7⟩
         have HX1 : Aside0 (CipAt w4_.drew g d st bw r) := ⟨HS7.out⟩
         have HF1 : Aside0 (Fr w w4_.drew (fun k => k = g)) := ⟨HF7.out.drew⟩
         clear hz0 hz1 hz2 hz3 q0 q1 q2 q3 b0 b1_ b2_ b3_ hxb ha7
         try go_wp2
         refine start_ (n := 32) (S := fun w' => w'.cell? ⟨gw, 0, none⟩ = some (.int .u8 (n0 : Int)) ∧ w'.cell? ⟨gw, 1, none⟩ = some (.int .u8 (n1 : Int)) ∧ w'.cell? ⟨gw, 2, none⟩ = some (.int .u8 (n2 : Int)) ∧ w'.cell? ⟨gw, 3, none⟩ = some (.int .u8 (n3 : Int)) ∧ w'.cell? ⟨g, 20 + n0, none⟩ = some (.int .u8 z0) ∧ w'.cell? ⟨g, 20 + n1, none⟩ = some (.int .u8 z1) ∧ w'.cell? ⟨g, 20 + n2, none⟩ = some (.int .u8 z2) ∧ w'.cell? ⟨g, 20 + n3, none⟩ = some (.int .u8 z3)) (ds := [31]) #[false, false, false, false, false, false, false, false, false, false, false, false, false, false, false, false, false, false, false, false, false, false, false, false, false, false, false, false, false, false, false, false] (by kernel_rfl) rfl rfl ⟨P0.out, P1.out, P2.out, P3.out, Q0.out, Q1.out, Q2.out, Q3.out⟩ (fun hHeld => ?_)
         refine with_tabW A_fill.tab17 A_fill.bits17 (fun HT_ HW_ => ?_)
         generalize w4_.drew = x1 at P0 P1 P2 P3 Q0 Q1 Q2 Q3 HA8 HX1 HF1 hHeld ⊢
         refine pure_ (i := 0) (N := some 55) (v := ?_) (a' := ?_) #[true, false, false, false, false, false, false, false, false, false, false, false, false, false, false, false, false, false, false, false, false, false, false, false, false, false, false, false, false, false, false, false] rfl rfl (any_of HT_.out (by kernel_rfl)) (fun _ _ _ h => h) (Or.inl ⟨by rfl, ?_⟩) ?_ ?_
         rotate_left
         ·intro w'
          go_simp
          with_reducible rfl
         rotate_left
         ·simp only [Act.put, List.setIfInBounds_toArray, List.set_cons_zero, List.set_cons_succ, i64_w, i32_w]
          rfl
         refine pure_ (i := 1) (N := some 56) (v := ?_) (a' := ?_) #[true, true, false, false, false, false, false, false, false, false, false, false, false, false, false, false, false, false, false, false, false, false, false, false, false, false, false, false, false, false, false, false] rfl rfl (any_of HT_.out (by kernel_rfl)) (fun _ _ _ h => h) (Or.inl ⟨by rfl, ?_⟩) ?_ ?_
         rotate_left
         ·intro w'
          go_simp
          with_reducible rfl
         rotate_left
         ·simp only [Act.put, List.setIfInBounds_toArray, List.set_cons_zero, List.set_cons_succ, i64_w, i32_w]
          rfl
         refine pure_ (i := 3) (N := some 58) (v := ?_) (a' := ?_) #[true, true, false, true, false, false, false, false, false, false, false, false, false, false, false, false, false, false, false, false, false, false, false, false, false, false, false, false, false, false, false, false] rfl rfl (any_of HT_.out (by kernel_rfl)) (fun _ _ _ h => h) (Or.inl ⟨by rfl, ?_⟩) ?_ ?_
         rotate_left
         ·intro w'
          go_simp
          with_reducible rfl
         rotate_left
         ·simp only [Act.put, List.setIfInBounds_toArray, List.set_cons_zero, List.set_cons_succ, i64_w, i32_w]
          rfl
         refine pure_ (i := 4) (N := some 59) (v := ?_) (a' := ?_) #[true, true, false, true, true, false, false, false, false, false, false, false, false, false, false, false, false, false, false, false, false, false, false, false, false, false, false, false, false, false, false, false] rfl rfl (any_of HT_.out (by kernel_rfl)) (fun _ _ _ h => h) (Or.inl ⟨by rfl, ?_⟩) ?_ ?_
         rotate_left
         ·intro w'
          go_simp
          with_reducible rfl
         rotate_left
         ·simp only [Act.put, List.setIfInBounds_toArray, List.set_cons_zero, List.set_cons_succ, i64_w, i32_w]
          rfl
         refine pure_ (i := 7) (N := some 62) (v := ?_) (a' := ?_) #[true, true, false, true, true, false, false, true, false, false, false, false, false, false, false, false, false, false, false, false, false, false, false, false, false, false, false, false, false, false, false, false] rfl rfl (any_of HT_.out (by kernel_rfl)) (fun _ _ _ h => h) (Or.inl ⟨by rfl, ?_⟩) ?_ ?_
         rotate_left
         ·intro w'
          go_simp
          with_reducible rfl
         rotate_left
         ·simp only [Act.put, List.setIfInBounds_toArray, List.set_cons_zero, List.set_cons_succ, i64_w, i32_w]
          rfl
         refine pure_ (i := 9) (N := some 64) (v := ?_) (a' := ?_) #[true, true, false, true, true, false, false, true, false, true, false, false, false, false, false, false, false, false, false, false, false, false, false, false, false, false, false, false, false, false, false, false] rfl rfl (any_of HT_.out (by kernel_rfl)) (fun _ _ _ h => h) (Or.inl ⟨by rfl, ?_⟩) ?_ ?_
         rotate_left
         ·intro w'
          go_simp
          with_reducible rfl
         rotate_left
         ·simp only [Act.put, List.setIfInBounds_toArray, List.set_cons_zero, List.set_cons_succ, i64_w, i32_w]
          rfl
         refine pure_ (i := 10) (N := some 65) (v := ?_) (a' := ?_) #[true, true, false, true, true, false, false, true, false, true, true, false, false, false, false, false, false, false, false, false, false, false, false, false, false, false, false, false, false, false, false, false] rfl rfl (any_of HT_.out (by kernel_rfl)) (fun _ _ _ h => h) (Or.inl ⟨by rfl, ?_⟩) ?_ ?_
         rotate_left
         ·intro w'
          go_simp
          with_reducible rfl
         rotate_left
         ·simp only [Act.put, List.setIfInBounds_toArray, List.set_cons_zero, List.set_cons_succ, i64_w, i32_w]
          rfl
         refine pure_ (i := 12) (N := some 67) (v := ?_) (a' := ?_) #[true, true, false, true, true, false, false, true, false, true, true, false, true, false, false, false, false, false, false, false, false, false, false, false, false, false, false, false, false, false, false, false] rfl rfl (any_of HT_.out (by kernel_rfl)) (fun _ _ _ h => h) (Or.inl ⟨by rfl, ?_⟩) ?_ ?_
         rotate_left
         ·intro w'
          go_simp
          with_reducible rfl
         rotate_left
         ·simp only [Act.put, List.setIfInBounds_toArray, List.set_cons_zero, List.set_cons_succ, i64_w, i32_w]
          rfl
         refine pure_ (i := 13) (N := some 68) (v := ?_) (a' := ?_) #[true, true, false, true, true, false, false, true, false, true, true, false, true, true, false, false, false, false, false, false, false, false, false, false, false, false, false, false, false, false, false, false] rfl rfl (any_of HT_.out (by kernel_rfl)) (fun _ _ _ h => h) (Or.inl ⟨by rfl, ?_⟩) ?_ ?_
         rotate_left
         ·intro w'
          go_simp
          with_reducible rfl
         rotate_left
         ·simp only [Act.put, List.setIfInBounds_toArray, List.set_cons_zero, List.set_cons_succ, i64_w, i32_w]
          rfl
         refine pure_ (i := 16) (N := some 71) (v := ?_) (a' := ?_) #[true, true, false, true, true, false, false, true, false, true, true, false, true, true, false, false, true, false, false, false, false, false, false, false, false, false, false, false, false, false, false, false] rfl rfl (any_of HT_.out (by kernel_rfl)) (fun _ _ _ h => h) (Or.inl ⟨by rfl, ?_⟩) ?_ ?_
         rotate_left
         ·intro w'
          go_simp
          with_reducible rfl
         rotate_left
         ·simp only [Act.put, List.setIfInBounds_toArray, List.set_cons_zero, List.set_cons_succ, i64_w, i32_w]
          rfl
         refine pure_ (i := 17) (N := some 72) (v := ?_) (a' := ?_) #[true, true, false, true, true, false, false, true, false, true, true, false, true, true, false, false, true, true, false, false, false, false, false, false, false, false, false, false, false, false, false, false] rfl rfl (any_of HT_.out (by kernel_rfl)) (fun _ _ _ h => h) (Or.inl ⟨by rfl, ?_⟩) ?_ ?_
         rotate_left
         ·intro w'
          go_simp
          with_reducible rfl
         rotate_left
         ·simp only [Act.put, List.setIfInBounds_toArray, List.set_cons_zero, List.set_cons_succ, i64_w, i32_w]
          rfl
         refine pure_ (i := 19) (N := some 74) (v := ?_) (a' := ?_) #[true, true, false, true, true, false, false, true, false, true, true, false, true, true, false, false, true, true, false, true, false, false, false, false, false, false, false, false, false, false, false, false] rfl rfl (any_of HT_.out (by kernel_rfl)) (fun _ _ _ h => h) (Or.inl ⟨by rfl, ?_⟩) ?_ ?_
         rotate_left
         ·intro w'
          go_simp
          with_reducible rfl
         rotate_left
         ·simp only [Act.put, List.setIfInBounds_toArray, List.set_cons_zero, List.set_cons_succ, i64_w, i32_w]
          rfl
         refine pure_ (i := 20) (N := some 75) (v := ?_) (a' := ?_) #[true, true, false, true, true, false, false, true, false, true, true, false, true, true, false, false, true, true, false, true, true, false, false, false, false, false, false, false, false, false, false, false] rfl rfl (any_of HT_.out (by kernel_rfl)) (fun _ _ _ h => h) (Or.inl ⟨by rfl, ?_⟩) ?_ ?_
         rotate_left
         ·intro w'
          go_simp
          with_reducible rfl
         rotate_left
         ·simp only [Act.put, List.setIfInBounds_toArray, List.set_cons_zero, List.set_cons_succ, i64_w, i32_w]
          rfl
         refine pure_ (i := 23) (N := some 78) (v := ?_) (a' := ?_) #[true, true, false, true, true, false, false, true, false, true, true, false, true, true, false, false, true, true, false, true, true, false, false, true, false, false, false, false, false, false, false, false] rfl rfl (any_of HT_.out (by kernel_rfl)) (fun _ _ _ h => h) (Or.inl ⟨by rfl, ?_⟩) ?_ ?_
         rotate_left
         ·intro w'
          go_simp
          with_reducible rfl
         rotate_left
         ·simp only [Act.put, List.setIfInBounds_toArray, List.set_cons_zero, List.set_cons_succ, i64_w, i32_w]
          rfl
         refine pure_ (i := 24) (N := some 79) (v := ?_) (a' := ?_) #[true, true, false, true, true, false, false, true, false, true, true, false, true, true, false, false, true, true, false, true, true, false, false, true, true, false, false, false, false, false, false, false] rfl rfl (any_of HT_.out (by kernel_rfl)) (fun _ _ _ h => h) (Or.inl ⟨by rfl, ?_⟩) ?_ ?_
         rotate_left
         ·intro w'
          go_simp
          with_reducible rfl
         rotate_left
         ·simp only [Act.put, List.setIfInBounds_toArray, List.set_cons_zero, List.set_cons_succ, i64_w, i32_w]
          rfl
         refine pure_ (i := 26) (N := some 81) (v := ?_) (a' := ?_) #[true, true, false, true, true, false, false, true, false, true, true, false, true, true, false, false, true, true, false, true, true, false, false, true, true, false, true, false, false, false, false, false] rfl rfl (any_of HT_.out (by kernel_rfl)) (fun _ _ _ h => h) (Or.inl ⟨by rfl, ?_⟩) ?_ ?_
         rotate_left
         ·intro w'
          go_simp
          with_reducible rfl
         rotate_left
         ·simp only [Act.put, List.setIfInBounds_toArray, List.set_cons_zero, List.set_cons_succ, i64_w, i32_w]
          rfl
         refine pure_ (i := 27) (N := some 82) (v := ?_) (a' := ?_) #[true, true, false, true, true, false, false, true, false, true, true, false, true, true, false, false, true, true, false, true, true, false, false, true, true, false, true, true, false, false, false, false] rfl rfl (any_of HT_.out (by kernel_rfl)) (fun _ _ _ h => h) (Or.inl ⟨by rfl, ?_⟩) ?_ ?_
         rotate_left
         ·intro w'
          go_simp
          with_reducible rfl
         rotate_left
         ·simp only [Act.put, List.setIfInBounds_toArray, List.set_cons_zero, List.set_cons_succ, i64_w, i32_w]
          rfl
         refine take_ (i := 2) (N := some 57) (v := ?_) (a' := ?_) #[true, true, true, true, true, false, false, true, false, true, true, false, true, true, false, false, true, true, false, true, true, false, false, true, true, false, true, true, false, false, false, false] rfl rfl (take_ofW HT_.out HW_.out (by kernel_rfl)) (fun _ _ _ h => h) (Or.inl ⟨by rfl, ?_⟩) hHeld ?_ ?_
         rotate_left
         ·rintro w' ⟨s0, s1, s2, s3, s4, s5, s6, s7⟩
          go_simp
          with_reducible rfl
         rotate_left
         ·simp only [Act.put, List.setIfInBounds_toArray, List.set_cons_zero, List.set_cons_succ, i64_w, i32_w]
          rfl
         refine pure_ (i := 5) (N := some 60) (v := ?_) (a' := ?_) #[true, true, true, true, true, true, false, true, false, true, true, false, true, true, false, false, true, true, false, true, true, false, false, true, true, false, true, true, false, false, false, false] rfl rfl (any_of HT_.out (by kernel_rfl)) (fun _ _ _ h => h) (Or.inl ⟨by rfl, ?_⟩) ?_ ?_
         rotate_left
         ·intro w'
          go_simp
          with_reducible rfl
         rotate_left
         ·simp only [Act.put, List.setIfInBounds_toArray, List.set_cons_zero, List.set_cons_succ, i64_w, i32_w]
          rfl
         refine take_ (i := 6) (N := some 61) (v := ?_) (a' := ?_) #[true, true, true, true, true, true, true, true, false, true, true, false, true, true, false, false, true, true, false, true, true, false, false, true, true, false, true, true, false, false, false, false] rfl rfl (take_ofW HT_.out HW_.out (by kernel_rfl)) (fun _ _ _ h => h) (Or.inl ⟨by rfl, ?_⟩) hHeld ?_ ?_
         rotate_left
         ·rintro w' ⟨s0, s1, s2, s3, s4, s5, s6, s7⟩
          go_simp
          with_reducible rfl
         rotate_left
         ·simp only [Act.put, List.setIfInBounds_toArray, List.set_cons_zero, List.set_cons_succ, i64_w, i32_w]
          rfl
         refine pure_ (i := 8) (N := some 63) (v := ?_) (a' := ?_) #[true, true, true, true, true, true, true, true, true, true, true, false, true, true, false, false, true, true, false, true, true, false, false, true, true, false, true, true, false, false, false, false] rfl rfl (any_of HT_.out (by kernel_rfl)) (fun _ _ _ h => h) (Or.inl ⟨by rfl, ?_⟩) ?_ ?_
         rotate_left
         ·intro w'
          go_simp
          with_reducible rfl
         rotate_left
         ·simp only [Act.put, List.setIfInBounds_toArray, List.set_cons_zero, List.set_cons_succ, i64_w, i32_w]
          rfl
         refine take_ (i := 11) (N := some 66) (v := ?_) (a' := ?_) #[true, true, true, true, true, true, true, true, true, true, true, true, true, true, false, false, true, true, false, true, true, false, false, true, true, false, true, true, false, false, false, false] rfl rfl (take_ofW HT_.out HW_.out (by kernel_rfl)) (fun _ _ _ h => h) (Or.inl ⟨by rfl, ?_⟩) hHeld ?_ ?_
         rotate_left
         ·rintro w' ⟨s0, s1, s2, s3, s4, s5, s6, s7⟩
          go_simp
          with_reducible rfl
         rotate_left
         ·simp only [Act.put, List.setIfInBounds_toArray, List.set_cons_zero, List.set_cons_succ, i64_w, i32_w]
          rfl
         refine pure_ (i := 14) (N := some 69) (v := ?_) (a' := ?_) #[true, true, true, true, true, true, true, true, true, true, true, true, true, true, true, false, true, true, false, true, true, false, false, true, true, false, true, true, false, false, false, false] rfl rfl (any_of HT_.out (by kernel_rfl)) (fun _ _ _ h => h) (Or.inl ⟨by rfl, ?_⟩) ?_ ?_
         rotate_left
         ·intro w'
          go_simp
          with_reducible rfl
         rotate_left
         ·simp only [Act.put, List.setIfInBounds_toArray, List.set_cons_zero, List.set_cons_succ, i64_w, i32_w]
          rfl
         refine take_ (i := 15) (N := some 70) (v := ?_) (a' := ?_) #[true, true, true, true, true, true, true, true, true, true, true, true, true, true, true, true, true, true, false, true, true, false, false, true, true, false, true, true, false, false, false, false] rfl rfl (take_ofW HT_.out HW_.out (by kernel_rfl)) (fun _ _ _ h => h) (Or.inl ⟨by rfl, ?_⟩) hHeld ?_ ?_
         rotate_left
         ·rintro w' ⟨s0, s1, s2, s3, s4, s5, s6, s7⟩
          go_simp
          with_reducible rfl
         rotate_left
         ·simp only [Act.put, List.setIfInBounds_toArray, List.set_cons_zero, List.set_cons_succ, i64_w, i32_w]
          rfl
         refine take_ (i := 18) (N := some 73) (v := ?_) (a' := ?_) #[true, true, true, true, true, true, true, true, true, true, true, true, true, true, true, true, true, true, true, true, true, false, false, true, true, false, true, true, false, false, false, false] rfl rfl (take_ofW HT_.out HW_.out (by kernel_rfl)) (fun _ _ _ h => h) (Or.inl ⟨by rfl, ?_⟩) hHeld ?_ ?_
         rotate_left
         ·rintro w' ⟨s0, s1, s2, s3, s4, s5, s6, s7⟩
          go_simp
          with_reducible rfl
         rotate_left
         ·simp only [Act.put, List.setIfInBounds_toArray, List.set_cons_zero, List.set_cons_succ, i64_w, i32_w]
          rfl
         refine pure_ (i := 21) (N := some 76) (v := ?_) (a' := ?_) #[true, true, true, true, true, true, true, true, true, true, true, true, true, true, true, true, true, true, true, true, true, true, false, true, true, false, true, true, false, false, false, false] rfl rfl (any_of HT_.out (by kernel_rfl)) (fun _ _ _ h => h) (Or.inl ⟨by rfl, ?_⟩) ?_ ?_
         rotate_left
         ·intro w'
          go_simp
          with_reducible rfl
         rotate_left
         ·simp only [Act.put, List.setIfInBounds_toArray, List.set_cons_zero, List.set_cons_succ, i64_w, i32_w]
          rfl
         refine take_ (i := 22) (N := some 77) (v := ?_) (a' := ?_) #[true, true, true, true, true, true, true, true, true, true, true, true, true, true, true, true, true, true, true, true, true, true, true, true, true, false, true, true, false, false, false, false] rfl rfl (take_ofW HT_.out HW_.out (by kernel_rfl)) (fun _ _ _ h => h) (Or.inl ⟨by rfl, ?_⟩) hHeld ?_ ?_
         rotate_left
         ·rintro w' ⟨s0, s1, s2, s3, s4, s5, s6, s7⟩
          go_simp
          with_reducible rfl
         rotate_left
         ·simp only [Act.put, List.setIfInBounds_toArray, List.set_cons_zero, List.set_cons_succ, i64_w, i32_w]
          rfl
         refine take_ (i := 25) (N := some 80) (v := ?_) (a' := ?_) #[true, true, true, true, true, true, true, true, true, true, true, true, true, true, true, true, true, true, true, true, true, true, true, true, true, true, true, true, false, false, false, false] rfl rfl (take_ofW HT_.out HW_.out (by kernel_rfl)) (fun _ _ _ h => h) (Or.inl ⟨by rfl, ?_⟩) hHeld ?_ ?_
         rotate_left
         ·rintro w' ⟨s0, s1, s2, s3, s4, s5, s6, s7⟩
          go_simp
          with_reducible rfl
         rotate_left
         ·simp only [Act.put, List.setIfInBounds_toArray, List.set_cons_zero, List.set_cons_succ, i64_w, i32_w]
          rfl
         refine pure_ (i := 28) (N := some 83) (v := ?_) (a' := ?_) #[true, true, true, true, true, true, true, true, true, true, true, true, true, true, true, true, true, true, true, true, true, true, true, true, true, true, true, true, true, false, false, false] rfl rfl (any_of HT_.out (by kernel_rfl)) (fun _ _ _ h => h) (Or.inl ⟨by rfl, ?_⟩) ?_ ?_
         rotate_left
         ·intro w'
          go_simp
          with_reducible rfl
         rotate_left
         ·simp only [Act.put, List.setIfInBounds_toArray, List.set_cons_zero, List.set_cons_succ, i64_w, i32_w]
          rfl
         refine take_ (i := 29) (N := some 84) (v := ?_) (a' := ?_) #[true, true, true, true, true, true, true, true, true, true, true, true, true, true, true, true, true, true, true, true, true, true, true, true, true, true, true, true, true, true, false, false] rfl rfl (take_ofW HT_.out HW_.out (by kernel_rfl)) (fun _ _ _ h => h) (Or.inl ⟨by rfl, ?_⟩) hHeld ?_ ?_
         rotate_left
         ·rintro w' ⟨s0, s1, s2, s3, s4, s5, s6, s7⟩
          go_simp
          with_reducible rfl
         rotate_left
         ·simp only [Act.put, List.setIfInBounds_toArray, List.set_cons_zero, List.set_cons_succ, i64_w, i32_w]
          rfl
         refine pure_ (i := 30) (N := some 85) (v := ?_) (a' := ?_) #[true, true, true, true, true, true, true, true, true, true, true, true, true, true, true, true, true, true, true, true, true, true, true, true, true, true, true, true, true, true, true, false] rfl rfl (any_of HT_.out (by kernel_rfl)) (fun _ _ _ h => h) (Or.inl ⟨by rfl, ?_⟩) ?_ ?_
         rotate_left
         ·intro w'
          go_simp
          with_reducible rfl
         rotate_left
         ·simp only [Act.put, List.setIfInBounds_toArray, List.set_cons_zero, List.set_cons_succ, i64_w, i32_w]
          rfl
         refine last_ (i := 31) (N := none) #[true, true, true, true, true, true, true, true, true, true, true, true, true, true, true, true, true, true, true, true, true, true, true, true, true, true, true, true, true, true, true, true] rfl rfl (one_of HT_.out (by kernel_rfl)) (by decide) (fun K hK => ?_)
         refine store_part_step (t := 144) (e := 144) (g := gw) (off := 0) (cur := [(n0 : Int), (n1 : Int), (n2 : Int), (n3 : Int)].map (Value.int .u8)) (cells := u8s [x8 z1 pw, z2, z3, z0]) rfl rfl rfl (by rfl) (by rfl) HA8.out size144 (Nat.le_refl 4) (u8s_one _) ?_
         intro x2 hb hf
         have HX2 := Aside0.mk (HX1.out.fr hf (by have := HG6.out; show ¬ g = gw; omega))
         have HA9 : Aside0 (ArrB x2 gw 144 [x8 z1 pw, z2, z3, z0]) := ⟨hb⟩
         have HF_2 := Aside0.mk (HF1.out.trans hf (fun k e => .inr (by rw [e]; exact HG6.out.2)))
         clear hb hf
         refine hK.out _ _ ?_
         clear hK K
         refine done_ (done_of HT_.out (by kernel_rfl)) ?_

         go_wp2_with (first
          | (go_at_call 104; (with_reducible refine (aes_double.calls pw (dblV pw) _ (dbl_some _)).mono ?_); rintro e w5 ⟨rfl, hd⟩; have HX5 := Aside0.mk (HX2.out.below hd.below); have HA5 := Aside0.mk (HA9.out.below hd.below); have HF5_ := Aside0.mk (HF_2.out.then_below hd.below); clear hd))
         go_meet
         case rel => exact ⟨by unfold pwF; rw [if_pos HC2.out], ⟨by unfold wdF; rw [if_pos HC2.out, HW4.out]; exact HA5.out⟩, HX5, HF5_⟩
        ·have c2b : ((i : Int).tmod 4 == 0) = false := beq_eq_false_iff_ne.mpr (by rw [Int.tmod_eq_emod_of_nonneg (by omega)]; omega)
         have HC2 := Aside0.mk c2
         have c2c : ((i : Int) % 4 == 0) = false := beq_eq_false_iff_ne.mpr (by omega)
         have c2d : ((i % 4 : Nat) == 0) = false := beq_eq_false_iff_ne.mpr (by omega)
         clear c2
         go_wp2
         go_meet
         case rel => exact ⟨by unfold pwF; rw [if_neg HC2.out], ⟨by unfold wdF; rw [if_neg HC2.out]; exact HA7.out⟩, HS7, HF7⟩
       case rest =>
        clear HS6 HF6 HA6 HS7 HF7 HA7 HY HRG
        obtain ⟨hv4, HA, HS8, HF8⟩ := hcut
        obtain ⟨wd, hwd⟩ : ∃ v, wdF bw pw i = v := ⟨_, rfl⟩
        obtain ⟨pv, hpv⟩ : ∃ v, pwF pw i = v := ⟨_, rfl⟩
        have hwl := wdF_len bw pw i
        rw [hwd] at HA hwl
        rw [hpv] at hv4
        have HWP := Aside0.mk (show wdF bw pw i = wd ∧ pwF pw i = pv ∧ wd.length = 4 from ⟨hwd, hpv, hwl⟩)
        clear hwd hpv hwl
        subst hv4
        obtain ⟨i4, hi4⟩ : ∃ j, i - 4 = j := ⟨_, rfl⟩
        have e4 : wrap64 ((i : Int) - 4) = (i4 : Int) := by have := HJ.out; unfold wrap64; omega
        have i40 := eq_true (Int.natCast_nonneg i4)
        have i41 := eq_true (show (i4 : Int) < 44 by have := HJ.out; omega)
        have HI4 := Aside0.mk hi4
        clear hi4
        go_wp2
        go_loopg [88] 5 (fun kq v88 w' => ∃ k : Nat, v88 = .int .i64 (k : Int) ∧ Aside0 (kq = 5 - k ∧ k ≤ 4) ∧ Aside0 (ArrB w' gw 144 wd) ∧ Aside0 (CipAt w' g d st (xoF bw wd i k) r) ∧ Aside0 (Fr w w' (fun k => k = g)))
        case atStart => exact ⟨0, by first | rfl | simp, ⟨by omega⟩, HA, ⟨by rw [xoF]; exact HS8.out⟩, HF8⟩
        case round =>
         obtain ⟨k, rfl, HKK, HAK, HSK, HFK⟩ := hrel
         clear HA HS8 HF8
         by_cases c3 : (k : Int) < 4
         ·have c3b : decide ((k : Int) < 4) = true := decide_eq_true c3
          have hkx := eq_true c3
          have hk0 := eq_true (Int.natCast_nonneg k)
          have HK4 : Aside0 (k < 4) := ⟨by omega⟩
          clear c3
          have hok := xoF_ok (wd := wd) i HL5.out k
          obtain ⟨xa, hxa⟩ : ∃ x, (xoF bw wd i k).getD (528 + (4 * i4 + k)) 0 = x := ⟨_, rfl⟩
          obtain ⟨xb, hxb⟩ : ∃ x, wd.getD k 0 = x := ⟨_, rfl⟩
          have qa := HSK.out.cell (528 + (4 * i4 + k)) (by rw [hok.1]; have := HJ.out; have := HI4.out; have := HK4.out; omega)
          have qb := HAK.out.cell k (by rw [HWP.out.2.2]; exact HK4.out)
          have HOK := Aside0.mk hok
          rw [hxa, show 4 + (528 + (4 * i4 + k)) = 532 + i4 * 4 + k by omega] at qa
          rw [hxb] at qb
          have HX := Aside0.mk (show (xoF bw wd i k).getD (528 + (4 * (i - 4) + k)) 0 = xa ∧ wd.getD k 0 = xb from ⟨by rw [HI4.out]; exact hxa, hxb⟩)
          clear hxa hxb hok
          go_wp2
          have Q1 : Aside0 (wr.drew.cell? ⟨g, 532 + i4 * 4 + k, none⟩ = some (.int .u8 xa)) := ⟨qa⟩
          have Q2 : Aside0 (wr.drew.cell? ⟨gw, k, none⟩ = some (.int .u8 xb)) := ⟨qb⟩
          have HX1 : Aside0 (CipAt wr.drew g d st (xoF bw wd i k) r) := ⟨HSK.out⟩
          have HA1 : Aside0 (ArrB wr.drew gw 144 wd) := ⟨HAK.out⟩
          have HF1 : Aside0 (Fr w wr.drew (fun k => k = g)) := ⟨HFK.out.drew⟩
          clear qa qb
          refine start_ (n := 21) (S := fun w' => w'.cell? ⟨g, 532 + i4 * 4 + k, none⟩ = some (.int .u8 xa) ∧ w'.cell? ⟨gw, k, none⟩ = some (.int .u8 xb)) (ds := [20]) #[false, false, false, false, false, false, false, false, false, false, false, false, false, false, false, false, false, false, false, false, false] (by kernel_rfl) rfl rfl ⟨Q1.out, Q2.out⟩ (fun hHeld => ?_)
          refine with_tabW A_fill.tab22 A_fill.bits22 (fun HT_ HW_ => ?_)
          generalize wr.drew = x1 at Q1 Q2 HX1 HA1 HF1 hHeld ⊢
          refine pure_ (i := 0) (N := some 91) (v := ?_) (a' := ?_) #[true, false, false, false, false, false, false, false, false, false, false, false, false, false, false, false, false, false, false, false, false] rfl rfl (any_of HT_.out (by kernel_rfl)) (fun _ _ _ h => h) (Or.inl ⟨by rfl, ?_⟩) ?_ ?_
          rotate_left
          ·intro w'
           go_simp
           with_reducible rfl
          rotate_left
          ·simp only [Act.put, List.setIfInBounds_toArray, List.set_cons_zero, List.set_cons_succ, i64_w, i32_w]
           rfl
          refine pure_ (i := 1) (N := some 92) (v := ?_) (a' := ?_) #[true, true, false, false, false, false, false, false, false, false, false, false, false, false, false, false, false, false, false, false, false] rfl rfl (any_of HT_.out (by kernel_rfl)) (fun _ _ _ h => h) (Or.inl ⟨by rfl, ?_⟩) ?_ ?_
          rotate_left
          ·intro w'
           go_simp
           with_reducible rfl
          rotate_left
          ·simp only [Act.put, List.setIfInBounds_toArray, List.set_cons_zero, List.set_cons_succ, i64_w, i32_w]
           rfl
          refine pure_ (i := 2) (N := some 93) (v := ?_) (a' := ?_) #[true, true, true, false, false, false, false, false, false, false, false, false, false, false, false, false, false, false, false, false, false] rfl rfl (any_of HT_.out (by kernel_rfl)) (fun _ _ _ h => h) (Or.inl ⟨by rfl, ?_⟩) ?_ ?_
          rotate_left
          ·intro w'
           go_simp
           with_reducible rfl
          rotate_left
          ·simp only [Act.put, List.setIfInBounds_toArray, List.set_cons_zero, List.set_cons_succ, i64_w, i32_w]
           rfl
          refine pure_ (i := 3) (N := some 94) (v := ?_) (a' := ?_) #[true, true, true, true, false, false, false, false, false, false, false, false, false, false, false, false, false, false, false, false, false] rfl rfl (any_of HT_.out (by kernel_rfl)) (fun _ _ _ h => h) (Or.inl ⟨by rfl, ?_⟩) ?_ ?_
          rotate_left
          ·intro w'
           go_simp
           with_reducible rfl
          rotate_left
          ·simp only [Act.put, List.setIfInBounds_toArray, List.set_cons_zero, List.set_cons_succ, i64_w, i32_w]
           rfl
          refine pure_ (i := 4) (N := some 95) (v := ?_) (a' := ?_) #[true, true, true, true, true, false, false, false, false, false, false, false, false, false, false, false, false, false, false, false, false] rfl rfl (any_of HT_.out (by kernel_rfl)) (fun _ _ _ h => h) (Or.inl ⟨by rfl, ?_⟩) ?_ ?_
          rotate_left
          ·intro w'
           go_simp
           with_reducible rfl
          rotate_left
          ·simp only [Act.put, List.setIfInBounds_toArray, List.set_cons_zero, List.set_cons_succ, i64_w, i32_w]
           rfl
          refine pure_ (i := 5) (N := some 96) (v := ?_) (a' := ?_) #[true, true, true, true, true, true, false, false, false, false, false, false, false, false, false, false, false, false, false, false, false] rfl rfl (any_of HT_.out (by kernel_rfl)) (fun _ _ _ h => h) (Or.inl ⟨by rfl, ?_⟩) ?_ ?_
          rotate_left
          ·intro w'
           go_simp
           with_reducible rfl
          rotate_left
          ·simp only [Act.put, List.setIfInBounds_toArray, List.set_cons_zero, List.set_cons_succ, i64_w, i32_w]
           rfl
          refine pure_ (i := 6) (N := some 97) (v := ?_) (a' := ?_) #[true, true, true, true, true, true, true, false, false, false, false, false, false, false, false, false, false, false, false, false, false] rfl rfl (any_of HT_.out (by kernel_rfl)) (fun _ _ _ h => h) (Or.inl ⟨by rfl, ?_⟩) ?_ ?_
          rotate_left
          ·intro w'
           go_simp
           with_reducible rfl
          rotate_left
          ·simp only [Act.put, List.setIfInBounds_toArray, List.set_cons_zero, List.set_cons_succ, i64_w, i32_w]
           rfl
          refine pure_ (i := 7) (N := some 98) (v := ?_) (a' := ?_) #[true, true, true, true, true, true, true, true, false, false, false, false, false, false, false, false, false, false, false, false, false] rfl rfl (any_of HT_.out (by kernel_rfl)) (fun _ _ _ h => h) (Or.inl ⟨by rfl, ?_⟩) ?_ ?_
          rotate_left
          ·intro w'
           go_simp
           with_reducible rfl
          rotate_left
          ·simp only [Act.put, List.setIfInBounds_toArray, List.set_cons_zero, List.set_cons_succ, i64_w, i32_w]
           rfl
          refine pure_ (i := 8) (N := some 99) (v := ?_) (a' := ?_) #[true, true, true, true, true, true, true, true, true, false, false, false, false, false, false, false, false, false, false, false, false] rfl rfl (any_of HT_.out (by kernel_rfl)) (fun _ _ _ h => h) (Or.inl ⟨by rfl, ?_⟩) ?_ ?_
          rotate_left
          ·intro w'
           go_simp
           with_reducible rfl
          rotate_left
          ·simp only [Act.put, List.setIfInBounds_toArray, List.set_cons_zero, List.set_cons_succ, i64_w, i32_w]
           rfl
          refine pure_ (i := 9) (N := some 100) (v := ?_) (a' := ?_) #[true, true, true, true, true, true, true, true, true, true, false, false, false, false, false, false, false, false, false, false, false] rfl rfl (any_of HT_.out (by kernel_rfl)) (fun _ _ _ h => h) (Or.inl ⟨by rfl, ?_⟩) ?_ ?_
          rotate_left
          ·intro w'
           go_simp
           with_reducible rfl
          rotate_left
          ·simp only [Act.put, List.setIfInBounds_toArray, List.set_cons_zero, List.set_cons_succ, i64_w, i32_w]
           rfl
          refine pure_ (i := 10) (N := some 101) (v := ?_) (a' := ?_) #[true, true, true, true, true, true, true, true, true, true, true, false, false, false, false, false, false, false, false, false, false] rfl rfl (any_of HT_.out (by kernel_rfl)) (fun _ _ _ h => h) (Or.inl ⟨by rfl, ?_⟩) ?_ ?_
          rotate_left
          ·intro w'
           go_simp
           with_reducible rfl
          rotate_left
          ·simp only [Act.put, List.setIfInBounds_toArray, List.set_cons_zero, List.set_cons_succ, i64_w, i32_w]
           rfl
          refine pure_ (i := 12) (N := some 103) (v := ?_) (a' := ?_) #[true, true, true, true, true, true, true, true, true, true, true, false, true, false, false, false, false, false, false, false, false] rfl rfl (any_of HT_.out (by kernel_rfl)) (fun _ _ _ h => h) (Or.inl ⟨by rfl, ?_⟩) ?_ ?_
          rotate_left
          ·intro w'
           go_simp
           with_reducible rfl
          rotate_left
          ·simp only [Act.put, List.setIfInBounds_toArray, List.set_cons_zero, List.set_cons_succ, i64_w, i32_w]
           rfl
          refine pure_ (i := 13) (N := some 104) (v := ?_) (a' := ?_) #[true, true, true, true, true, true, true, true, true, true, true, false, true, true, false, false, false, false, false, false, false] rfl rfl (any_of HT_.out (by kernel_rfl)) (fun _ _ _ h => h) (Or.inl ⟨by rfl, ?_⟩) ?_ ?_
          rotate_left
          ·intro w'
           go_simp
           with_reducible rfl
          rotate_left
          ·simp only [Act.put, List.setIfInBounds_toArray, List.set_cons_zero, List.set_cons_succ, i64_w, i32_w]
           rfl
          refine pure_ (i := 16) (N := some 107) (v := ?_) (a' := ?_) #[true, true, true, true, true, true, true, true, true, true, true, false, true, true, false, false, true, false, false, false, false] rfl rfl (any_of HT_.out (by kernel_rfl)) (fun _ _ _ h => h) (Or.inl ⟨by rfl, ?_⟩) ?_ ?_
          rotate_left
          ·intro w'
           go_simp
           with_reducible rfl
          rotate_left
          ·simp only [Act.put, List.setIfInBounds_toArray, List.set_cons_zero, List.set_cons_succ, i64_w, i32_w]
           rfl
          refine pure_ (i := 17) (N := some 108) (v := ?_) (a' := ?_) #[true, true, true, true, true, true, true, true, true, true, true, false, true, true, false, false, true, true, false, false, false] rfl rfl (any_of HT_.out (by kernel_rfl)) (fun _ _ _ h => h) (Or.inl ⟨by rfl, ?_⟩) ?_ ?_
          rotate_left
          ·intro w'
           go_simp
           with_reducible rfl
          rotate_left
          ·simp only [Act.put, List.setIfInBounds_toArray, List.set_cons_zero, List.set_cons_succ, i64_w, i32_w]
           rfl
          refine pure_ (i := 18) (N := some 109) (v := ?_) (a' := ?_) #[true, true, true, true, true, true, true, true, true, true, true, false, true, true, false, false, true, true, true, false, false] rfl rfl (any_of HT_.out (by kernel_rfl)) (fun _ _ _ h => h) (Or.inl ⟨by rfl, ?_⟩) ?_ ?_
          rotate_left
          ·intro w'
           go_simp
           with_reducible rfl
          rotate_left
          ·simp only [Act.put, List.setIfInBounds_toArray, List.set_cons_zero, List.set_cons_succ, i64_w, i32_w]
           rfl
          refine take_ (i := 11) (N := some 102) (v := ?_) (a' := ?_) #[true, true, true, true, true, true, true, true, true, true, true, true, true, true, false, false, true, true, true, false, false] rfl rfl (take_ofW HT_.out HW_.out (by kernel_rfl)) (fun _ _ _ h => h) (Or.inl ⟨by rfl, ?_⟩) hHeld ?_ ?_
          rotate_left
          ·rintro w' ⟨s0, s1⟩
           go_simp
           with_reducible rfl
          rotate_left
          ·simp only [Act.put, List.setIfInBounds_toArray, List.set_cons_zero, List.set_cons_succ, i64_w, i32_w]
           rfl
          refine take_ (i := 14) (N := some 105) (v := ?_) (a' := ?_) #[true, true, true, true, true, true, true, true, true, true, true, true, true, true, true, false, true, true, true, false, false] rfl rfl (take_ofW HT_.out HW_.out (by kernel_rfl)) (fun _ _ _ h => h) (Or.inl ⟨by rfl, ?_⟩) hHeld ?_ ?_
          rotate_left
          ·rintro w' ⟨s0, s1⟩
           go_simp
           with_reducible rfl
          rotate_left
          ·simp only [Act.put, List.setIfInBounds_toArray, List.set_cons_zero, List.set_cons_succ, i64_w, i32_w]
           rfl
          refine pure_ (i := 15) (N := some 106) (v := ?_) (a' := ?_) #[true, true, true, true, true, true, true, true, true, true, true, true, true, true, true, true, true, true, true, false, false] rfl rfl (any_of HT_.out (by kernel_rfl)) (fun _ _ _ h => h) (Or.inl ⟨by rfl, ?_⟩) ?_ ?_
          rotate_left
          ·intro w'
           go_simp
           with_reducible rfl
          rotate_left
          ·simp only [Act.put, List.setIfInBounds_toArray, List.set_cons_zero, List.set_cons_succ, i64_w, i32_w]
           rfl
          refine pure_ (i := 19) (N := some 110) (v := ?_) (a' := ?_) #[true, true, true, true, true, true, true, true, true, true, true, true, true, true, true, true, true, true, true, true, false] rfl rfl (any_of HT_.out (by kernel_rfl)) (fun _ _ _ h => h) (Or.inl ⟨by rfl, ?_⟩) ?_ ?_
          rotate_left
          ·intro w'
           go_simp
           with_reducible rfl
          rotate_left
          ·simp only [Act.put, List.setIfInBounds_toArray, List.set_cons_zero, List.set_cons_succ, i64_w, i32_w]
           rfl
          refine last_ (i := 20) (N := none) #[true, true, true, true, true, true, true, true, true, true, true, true, true, true, true, true, true, true, true, true, true] rfl rfl (one_of HT_.out (by kernel_rfl)) (by decide) (fun K hK => ?_)
          have hcs := HX1.out.cell (528 + (4 * i + k)) (by rw [HOK.out.1]; have := HJ.out; have := HK4.out; omega)
          rw [show 4 + (528 + (4 * i + k)) = 532 + i * 4 + k by omega] at hcs
          have hfs := HX1.out.fz (532 + i * 4 + k)
          refine skip_ (w1 := World.setCell x1 ⟨g, 532 + i * 4 + k, none⟩ (.int .u8 (x8 xa xb))) (by rfl) rfl ?_ ?_
          ·go_simp
          have HX2 : Aside0 (CipAt (World.setCell x1 ⟨g, 532 + i * 4 + k, none⟩ (.int .u8 (x8 xa xb))) g d st ((xoF bw wd i k).set (528 + (4 * i + k)) (x8 xa xb)) r) := ⟨by have := HX1.out.set (528 + (4 * i + k)) (x8 xa xb) (by rw [HOK.out.1]; have := HJ.out; have := HK4.out; omega); rw [show 4 + (528 + (4 * i + k)) = 532 + i * 4 + k by omega] at this; exact this⟩
          have HA2 : Aside0 (ArrB (World.setCell x1 ⟨g, 532 + i * 4 + k, none⟩ (.int .u8 (x8 xa xb))) gw 144 wd) := ⟨ArrB.far HA1.out (by have := HG6.out; show gw ≠ g; omega) _⟩
          have HF_2 := Aside0.mk (HF1.out.setCell (p := ⟨g, 532 + i * 4 + k, none⟩) (.inl rfl) (.int .u8 (x8 xa xb)))
          generalize World.setCell x1 ⟨g, 532 + i * 4 + k, none⟩ (.int .u8 (x8 xa xb)) = x2 at HX2 HA2 HF_2 ⊢
          refine hK.out _ _ ?_
          clear hK K
          refine done_ (done_of HT_.out (by kernel_rfl)) ?_

          go_wp2
          go_roundg (gk - 1)
          case measure => have := HKK.out; have := HK4.out; omega
          case rel =>
           refine ⟨k + 1, ?_, ⟨by have := HKK.out; have := HK4.out; omega⟩, HA2, ⟨by rw [xoF, HX.out.1, HX.out.2]; exact HX2.out⟩, HF_2⟩
           have := HK4.out
           first
           | rfl
           | (congr 1; unfold wrap64; omega)
           | (congr 1; done)
         ·have hk : k = 4 := by have := HKK.out; omega
          have c3b : decide ((k : Int) < 4) = false := decide_eq_false c3
          clear c3
          subst hk
          go_wp2
          go_roundg (40 - n)
          case measure => have := HK.out; have := HJ.out; have := HI.out; omega
          case rel =>
           refine ⟨n + 1, ?_, ?_, ⟨by have := HK.out; have := HJ.out; have := HI.out; omega⟩, ⟨?_⟩, HFK⟩
           ·rw [wsF_succ, HP.out.1, HP.out.2, HI.out, HWP.out.2.1]
           ·have := HJ.out
            have := HI.out
            first
            | (congr 1; unfold wrap64; omega)
            | (congr 1; omega)
           ·rw [wsF_succ, HP.out.1, HP.out.2, HI.out, HWP.out.1]
            exact HSK.out
      ·have hi : n = 40 := by have := HK.out; have := HI.out; omega
       have c1b : decide ((i : Int) < 44) = false := decide_eq_false c1
       clear c1
       have HR : Aside0 (fillV bs = bw) := ⟨by rw [fillV_eq, HB1.out, HB2.out, HB3.out, ← hi]; exact HP.out.1⟩
       go_wp2
       go_end0
       exact ⟨rfl, by rw [HR.out]; exact HS5.out, HF5.out⟩
end Go.Proofs.YteadamkkbgnpeaaGreat.A
end OfA4
section OfA5
set_option linter.unusedVariables false
set_option linter.unusedSimpArgs false
namespace Go.Proofs.YteadamkkbgnpeaaGreat.A
open Go.RowKit B S QTC YteadamkkbgnpeaaGreatW.PrintLast YteadamkkbgnpeaaGreatW.PrintWords YteadamkkbgnpeaaGreatW.PrintMore
theorem disable (w : World) : (callFunc 116 #[]).run Tryz.prog w = .ok (.value (.tuple #[])) w := run_call_mark0 Tryz.func116 (by kernel_rfl) (by kernel_rfl) (by kernel_rfl) .disable (by kernel_rfl) w
theorem enable (w : World) : (callFunc 118 #[]).run Tryz.prog w = .ok (.value (.tuple #[])) w := run_call_mark0 Tryz.func118 (by kernel_rfl) (by kernel_rfl) (by kernel_rfl) .enable (by kernel_rfl) w
theorem acquire (a : Addr) (w : World) : (callFunc 119 #[.pointer (some a)]).run Tryz.prog w = .ok (.value (.tuple #[])) w := run_call_marked Tryz.func119 (by kernel_rfl) (by kernel_rfl) (by kernel_rfl) .acquire (by kernel_rfl) a w
theorem releaseMerge (a : Addr) (w : World) : (callFunc 121 #[.pointer (some a)]).run Tryz.prog w = .ok (.value (.tuple #[])) w := run_call_marked Tryz.func121 (by kernel_rfl) (by kernel_rfl) (by kernel_rfl) .releaseMerge (by kernel_rfl) a w
set_option maxRecDepth 100000 in
set_option maxHeartbeats 1600000 in
theorem store_deferred (a : Addr) (x : Value) (u : FrameMode) (w : World) (hc : w.cell? a = some x) (hz : w.frozen? a = false) :
  CallsD Tryz.prog 109 #[.pointer (some a), .bool true] u w fun e u' w' => u' = u ∧ (e = .returned (.tuple #[]) ∧ w' = w.drew.setCell a (.int .u32 1)) := by
 have hc' : w.drew.cell? a = some x := by go_simp
 have hz' : w.drew.frozen? a = false := by go_simp
 have hst := run_call_store (P := Tryz.prog) Tryz.func113 (by kernel_rfl) (by kernel_rfl) (by kernel_rfl) (by kernel_rfl) (k := .u32) (y := 1) hc' hz'
 go_enter_d Tryz.func109, Tryz.ntmps109
 go_wp2
 go_region_calls
 all_goals (go_end0; exact ⟨rfl, rfl⟩)
set_option maxRecDepth 100000 in
set_option maxHeartbeats 1600000 in
theorem unlock_deferred (a : Addr) (u : FrameMode) (w : World) (hc : w.cell? a = some (.int .i32 1)) (hz : w.frozen? a = false) :
  CallsD Tryz.prog 108 #[.pointer (some a)] u w fun e u' w' => u' = u ∧ (e = .returned (.tuple #[]) ∧ w' = w.setCell a (.int .i32 0)) := by
 have hd := disable
 have he := enable
 have hr := releaseMerge
 have hadd := run_call_add (P := Tryz.prog) Tryz.func122 (by kernel_rfl) (by kernel_rfl) (by kernel_rfl) .i32 (by kernel_rfl) (y := -1) (s := 0) hc hz (by simp [go_sem]; rfl)
 have hcv := run_convert_to_unsafe (P := Tryz.prog) (src := 212) (dst := 216) Tryz.underlying212 Tryz.underlying216 (by kernel_rfl) hc
 go_enter_d Tryz.func108, Tryz.ntmps108
 go_wp2
 go_end0
 go_wp2
 go_end0
 exact ⟨rfl, rfl⟩
set_option maxRecDepth 100000 in
set_option maxHeartbeats 1600000 in
theorem lock_free (a : Addr) (w : World) (hc : w.cell? a = some (.int .i32 0)) (hz : w.frozen? a = false) :
  Calls Tryz.prog 107 #[.pointer (some a)] w fun e w' => e = .returned (.tuple #[]) ∧ w' = w.setCell a (.int .i32 1) := by
 have hd := disable
 have he := enable
 have ha := acquire
 have hcas := run_call_cas_hit (P := Tryz.prog) Tryz.func117 (by kernel_rfl) (by kernel_rfl) (by kernel_rfl) .i32 (by kernel_rfl) (y := 1) hc hz
 have hc' : (w.setCell a (.int .i32 1)).cell? a = some (.int .i32 1) := World.cell?_setCell_same w a _ hc
 have hcv := run_convert_to_unsafe (P := Tryz.prog) (src := 212) (dst := 216) Tryz.underlying212 Tryz.underlying216 (by kernel_rfl) hc'
 go_enter Tryz.func107, Tryz.ntmps107
 go_wp2
 first | go_end0 | (simp only [Exit.inBlock, Exit.then]; refine bodyPost_ret (results_none rfl _ _ _) rfl ?_) | refine bodyPost_ret (results_none rfl _ _ _) rfl ?_
 go_wp2
 go_end0
 exact ⟨rfl, rfl⟩
set_option maxRecDepth 100000 in
set_option maxHeartbeats 3200000 in
theorem slow_calls (g : Nat) (r : Int) (T : List Int) (hT : T.length = 704 ∧ AllB T) (w : World) (hs : CipAt w g 0 0 T r) :
  Calls Tryz.prog 102 #[.pointer (some ⟨g, 0, none⟩), .func (.func 92) #[.pointer (some ⟨g, 0, none⟩)] #[]] w fun e w' => e = .returned (.tuple #[]) ∧ CipAt w' g 1 0 (fillV T) r ∧ Fr w w' (fun k => k = g) := by
 have HS := Aside0.mk hs
 have HS1 := Aside0.mk (hs.set1 1)
 have HF1 := Aside0.mk ((Fr.refl w (fun k => k = g)).setCell (p := ⟨g, 1, none⟩) (.inl rfl) (.int .i32 1))
 have HT := Aside0.mk hT
 have hl := run_call_load (P := Tryz.prog) Tryz.func106 (by kernel_rfl) (by kernel_rfl) (by kernel_rfl) .u32 (by kernel_rfl) (w := w.setCell ⟨g, 1, none⟩ (.int .i32 1)) (a := ⟨g, 0, none⟩) (x := 0) HS1.out.c0
 have hnot : ∀ (x : Bool) (w : World), (Op.unary .not (.bool x)).run Tryz.prog w = .ok (.bool (!x)) w := fun _ _ => rfl
 clear hs hT
 go_enter_defers Tryz.func102, Tryz.ntmps102
 go_wp2_with (first
  | (go_at_call 107; refine (lock_free ⟨g, 1, none⟩ _ HS.out.c1 (HS.out.fz 1)).mono ?_; rintro e w' ⟨rfl, rfl⟩)
  | (go_at_call 92; refine (fill_calls g 0 1 r T HT.out _ HS1.out).mono ?_; rintro e w2 ⟨rfl, h2, hf2⟩; have HS2 := Aside0.mk h2; have HF2 := Aside0.mk (HF1.out.trans hf2 (fun k e => .inl e)); clear h2 hf2)
  | go_in)
 try go_wp2
 refine leaves_cons (f := 109) (args := #[.pointer (some ⟨g, 0, none⟩), .bool true]) (by simp) (by simp [go_sem]) ?_
 refine (store_deferred ⟨g, 0, none⟩ (.int .u32 0) .returning _ HS2.out.c0 (HS2.out.fz 0)).mono ?_
 rintro e u' w'' ⟨rfl, rfl, rfl⟩
 have HS3 : Aside0 (CipAt (w2.drew.setCell ⟨g, 0, none⟩ (.int .u32 1)) g 1 1 (fillV T) r) := ⟨CipAt.set0 (w := w2.drew) HS2.out 1⟩
 refine leaves_cons (f := 108) (args := #[.pointer (some ⟨g, 1, none⟩)]) (by simp [settle]) (by simp [go_sem]) ?_
 refine (unlock_deferred ⟨g, 1, none⟩ _ _ HS3.out.c1 (HS3.out.fz 1)).mono ?_
 rintro e u' w'' ⟨rfl, rfl, rfl⟩
 have HS4 := Aside0.mk (HS3.out.set1 0)
 have HF4 := Aside0.mk ((HF2.out.drew.setCell (p := ⟨g, 0, none⟩) (.inl rfl) (.int .u32 1)).setCell (p := ⟨g, 1, none⟩) (.inl rfl) (.int .i32 0))
 exact ⟨.tuple #[], results_none rfl _ _ _, rfl, HS4.out, HF4.out⟩
set_option maxRecDepth 100000 in
set_option maxHeartbeats 3200000 in
theorem do_calls (g : Nat) (r : Int) (T : List Int) (hT : T.length = 704 ∧ AllB T) (w : World) (hs : CipAt w g 0 0 T r) :
  Calls Tryz.prog 91 #[.pointer (some ⟨g, 0, none⟩), .func (.func 92) #[.pointer (some ⟨g, 0, none⟩)] #[]] w fun e w' => e = .returned (.tuple #[]) ∧ CipAt w' g 1 0 (fillV T) r ∧ Fr w w' (fun k => k = g) := by
 have HS := Aside0.mk hs
 have HT := Aside0.mk hT
 have hl := run_call_load (P := Tryz.prog) Tryz.func106 (by kernel_rfl) (by kernel_rfl) (by kernel_rfl) .u32 (by kernel_rfl) (w := w) (a := ⟨g, 0, none⟩) (x := 0) HS.out.c0
 have hnot : ∀ (x : Bool) (w : World), (Op.unary .not (.bool x)).run Tryz.prog w = .ok (.bool (!x)) w := fun _ _ => rfl
 clear hs hT
 go_enter Tryz.func91, Tryz.ntmps91
 go_wp2_with (first
  | (go_at_call 102; refine (slow_calls g r T HT.out _ HS.out).mono ?_; rintro e w' ⟨rfl, h2, hf2⟩; have HS2 := Aside0.mk h2; have HF2 := Aside0.mk hf2; clear h2 hf2)
  | go_in)
 go_end0
 exact ⟨rfl, HS2.out, HF2.out⟩
set_option maxRecDepth 100000 in
set_option maxHeartbeats 3200000 in
theorem done_calls (g : Nat) (r : Int) (T : List Int) (w : World) (hs : CipAt w g 1 0 T r) :
  Calls Tryz.prog 91 #[.pointer (some ⟨g, 0, none⟩), .func (.func 92) #[.pointer (some ⟨g, 0, none⟩)] #[]] w fun e w' => e = .returned (.tuple #[]) ∧ w' = w := by
 have HS := Aside0.mk hs
 have hl := run_call_load (P := Tryz.prog) Tryz.func106 (by kernel_rfl) (by kernel_rfl) (by kernel_rfl) .u32 (by kernel_rfl) (w := w) (a := ⟨g, 0, none⟩) (x := 1) HS.out.c0
 have hnot : ∀ (x : Bool) (w : World), (Op.unary .not (.bool x)).run Tryz.prog w = .ok (.bool (!x)) w := fun _ _ => rfl
 clear hs
 go_enter Tryz.func91, Tryz.ntmps91
 go_wp2
 go_end0
 exact ⟨rfl, rfl⟩
/-- A cipher of a key: not yet filled, or filled. -/
def cb0 (key : List Int) : List Int := key ++ List.replicate 688 0
def cb (key : List Int) : List Int := fillV (cb0 key)
def CipK (w : World) (g : Nat) (key : List Int) : Prop := ∃ r, CipAt w g 0 0 (cb0 key) r ∨ CipAt w g 1 0 (cb key) r
theorem cb0_ok {key : List Int} (h : key.length = 16 ∧ AllB key) : (cb0 key).length = 704 ∧ AllB (cb0 key) :=
 ⟨by rw [cb0, List.length_append, List.length_replicate, h.1], h.2.app (AllB.rep _)⟩
theorem cb_ok {key : List Int} (h : key.length = 16 ∧ AllB key) : (cb key).length = 704 ∧ AllB (cb key) := fillV_ok (cb0_ok h)
attribute [irreducible] cb cb0
set_option maxRecDepth 100000 in
set_option maxHeartbeats 3200000 in
theorem ready_calls (g : Nat) (key : List Int) (hk : key.length = 16 ∧ AllB key) (w : World) (hs : CipK w g key) :
  Calls Tryz.prog 74 #[.pointer (some ⟨g, 0, none⟩)] w fun e w' => e = .returned (.bool true) ∧ (∃ r, CipAt w' g 1 0 (cb key) r) ∧ Fr w w' (fun k => k = g) := by
 obtain ⟨r, hs | hs⟩ := hs
 ·have HS := Aside0.mk hs
  have HK := Aside0.mk hk
  have hc3 := hs.c3
  clear hs hk
  go_enter Tryz.func74, Tryz.ntmps74
  go_wp2_with (first
   | (go_at_call 91; refine (do_calls g r (cb0 key) (cb0_ok HK.out) _ HS.out).mono ?_; rintro e w' ⟨rfl, h2, hf2⟩; have HS2 : Aside0 (CipAt w' g 1 0 (cb key) r) := ⟨by unfold cb; exact h2⟩; have HF2 := Aside0.mk hf2; clear h2 hf2))
  go_ret
  exact ⟨rfl, ⟨r, HS2.out⟩, HF2.out⟩
 ·have HS := Aside0.mk hs
  have hc3 := hs.c3
  clear hs hk
  go_enter Tryz.func74, Tryz.ntmps74
  go_wp2_with (first
   | (go_at_call 91; refine (done_calls g r (cb key) _ HS.out).mono ?_; rintro e w' ⟨rfl, hw_⟩; have hw1_ := hw_.symm; clear hw_; subst hw1_))
  go_ret
  exact ⟨rfl, ⟨r, HS.out⟩, Fr.refl _ _⟩
end Go.Proofs.YteadamkkbgnpeaaGreat.A
end OfA5
section OfA6
set_option linter.unusedVariables false
set_option linter.unusedSimpArgs false
namespace Go.Proofs.YteadamkkbgnpeaaGreat.A
open Go.RowKit YteadamkkbgnpeaaGreatW.PrintLast B S QTC YteadamkkbgnpeaaGreatW.PrintWords YteadamkkbgnpeaaGreatW.PrintMore
set_option maxRecDepth 100000 in
set_option maxHeartbeats 1600000 in
theorem add64_calls (g : Nat) (x : Int) (w : World) (hc : w.cell? ⟨g, 708, none⟩ = some (.int .i64 x)) (hz : w.frozen? ⟨g, 708, none⟩ = false) :
  Calls Tryz.prog 75 #[.pointer (some ⟨g, 708, none⟩), .int .i64 1] w fun e w' => e = .returned (.int .i64 (wrap64 (x + 1))) ∧ w' = w.setCell ⟨g, 708, none⟩ (.int .i64 (wrap64 (x + 1))) := by
 have hadd := run_call_add (P := Tryz.prog) Tryz.func93 (by kernel_rfl) (by kernel_rfl) (by kernel_rfl) .i64 (by kernel_rfl) (y := 1) (s := wrap64 (x + 1)) hc hz (by simp [go_sem]; rw [IntKind.wrap_i64]; first | rfl | (unfold wrap64; omega))
 go_enter Tryz.func75, Tryz.ntmps75
 go_wp2
 go_ret
 exact ⟨rfl, rfl⟩
def sub4 (l : List Int) (o : Nat) : List Int := [l.getD o 0, l.getD (o + 1) 0, l.getD (o + 2) 0, l.getD (o + 3) 0]
/-- The block, the first words let in. -/
def aN (B blk : List Int) : Nat → List Int
 | 0 => List.replicate 16 0
 | n + 1 => (aN B blk n).set n (x8 (blk.getD n 0) (B.getD (528 + n) 0))
/-- A row's boxes. -/
def tA (B s t : List Int) (i : Nat) : Nat → List Int
 | 0 => t
 | k + 1 => (tA B s t i k).set (4 * i + k) (B.getD (16 + (s.getD (4 * ((i + k) % 4) + k) 0).toNat) 0)
def tB (B t : List Int) (r i : Nat) : List Int := if r < 10 then splice t (4 * i) (mixL B (sub4 t (4 * i)) 4) else t
def tC (B t : List Int) (r i : Nat) : Nat → List Int
 | 0 => t
 | k + 1 => (tC B t r i k).set (4 * i + k) (x8 ((tC B t r i k).getD (4 * i + k) 0) (B.getD (528 + (4 * (4 * r + i) + k)) 0))
def tR (B s : List Int) (r : Nat) : Nat → List Int
 | 0 => List.replicate 16 0
 | i + 1 => tC B (tB B (tA B s (tR B s r i) i 4) r i) r i 4
def sN (B blk : List Int) : Nat → List Int
 | 0 => aN B blk 16
 | r + 1 => tR B (sN B blk r) (r + 1) 4
def oF (s : List Int) : Nat → List Int
 | 0 => List.replicate 16 0
 | i + 1 => splice (oF s i) (4 * i) (sub4 s (4 * i))
/-- A block turned. -/
def turnV (B blk : List Int) : List Int := oF (sN B blk 10) 4
theorem mixL_b (B a : List Int) : ∀ i, AllB (mixL B a i)
 | 0 => AllB.rep 4
 | i + 1 => by rw [mixL]; exact (mixL_b B a i).set _ (x8_b _ _)
theorem aN_ok (B blk : List Int) : ∀ n, (aN B blk n).length = 16 ∧ AllB (aN B blk n)
 | 0 => ⟨by rw [aN, List.length_replicate], by rw [aN]; exact AllB.rep _⟩
 | n + 1 => ⟨by rw [aN, List.length_set]; exact (aN_ok B blk n).1, by rw [aN]; exact (aN_ok B blk n).2.set _ (x8_b _ _)⟩
theorem tA_ok {B s t : List Int} (i : Nat) (hB : AllB B) (h : t.length = 16 ∧ AllB t) : ∀ k, (tA B s t i k).length = 16 ∧ AllB (tA B s t i k)
 | 0 => h
 | k + 1 => ⟨by rw [tA, List.length_set]; exact (tA_ok i hB h k).1, by rw [tA]; exact (tA_ok i hB h k).2.set _ (hB.getD _)⟩
theorem tB_ok {B t : List Int} (r i : Nat) (hi : i < 4) (h : t.length = 16 ∧ AllB t) : (tB B t r i).length = 16 ∧ AllB (tB B t r i) := by
 unfold tB
 split
 ·exact ⟨by rw [splice_len _ _ _ (by rw [mixL_len]; omega)]; exact h.1, h.2.splice _ (mixL_b _ _ _)⟩
 ·exact h
theorem tC_ok {B t : List Int} (r i : Nat) (h : t.length = 16 ∧ AllB t) : ∀ k, (tC B t r i k).length = 16 ∧ AllB (tC B t r i k)
 | 0 => h
 | k + 1 => ⟨by rw [tC, List.length_set]; exact (tC_ok r i h k).1, by rw [tC]; exact (tC_ok r i h k).2.set _ (x8_b _ _)⟩
theorem tR_ok {B s : List Int} (r : Nat) (hB : AllB B) : ∀ i, i ≤ 4 → (tR B s r i).length = 16 ∧ AllB (tR B s r i)
 | 0, _ => ⟨by rw [tR, List.length_replicate], by rw [tR]; exact AllB.rep _⟩
 | i + 1, hi => tC_ok r i (tB_ok r i (by omega) (tA_ok i hB (tR_ok r hB i (by omega)) 4)) 4
theorem sN_ok {B : List Int} (blk : List Int) (hB : AllB B) : ∀ r, (sN B blk r).length = 16 ∧ AllB (sN B blk r)
 | 0 => aN_ok B blk 16
 | r + 1 => tR_ok (r + 1) hB 4 (Nat.le_refl _)
theorem oF_len (s : List Int) : ∀ i, i ≤ 4 → (oF s i).length = 16
 | 0, _ => by rw [oF, List.length_replicate]
 | i + 1, h => by rw [oF, splice_len _ _ _ (by rw [oF_len s i (by omega)]; show 4 * i + 4 ≤ 16; omega)]; exact oF_len s i (by omega)
theorem oF_b {s : List Int} (hs : AllB s) : ∀ i, AllB (oF s i)
 | 0 => by rw [oF]; exact AllB.rep _
 | i + 1 => by rw [oF]; exact (oF_b hs i).splice _ (AllB.four (hs.getD _) (hs.getD _) (hs.getD _) (hs.getD _))
theorem turnV_ok {B : List Int} (blk : List Int) (hB : AllB B) : (turnV B blk).length = 16 ∧ AllB (turnV B blk) := ⟨oF_len _ 4 (Nat.le_refl _), oF_b (sN_ok blk hB 10).2 4⟩
theorem sN_zero (B blk : List Int) : sN B blk 0 = aN B blk 16 := rfl
theorem sN_succ (B blk : List Int) (r : Nat) : sN B blk (r + 1) = tR B (sN B blk r) (r + 1) 4 := rfl
theorem aN_zero (B blk : List Int) : aN B blk 0 = List.replicate 16 0 := rfl
theorem aN_succ (B blk : List Int) (n : Nat) : aN B blk (n + 1) = (aN B blk n).set n (x8 (blk.getD n 0) (B.getD (528 + n) 0)) := rfl
theorem tR_zero (B s : List Int) (r : Nat) : tR B s r 0 = List.replicate 16 0 := rfl
theorem tR_succ (B s : List Int) (r i : Nat) : tR B s r (i + 1) = tC B (tB B (tA B s (tR B s r i) i 4) r i) r i 4 := rfl
theorem turnV_eq (B blk : List Int) : turnV B blk = oF (sN B blk 10) 4 := rfl
attribute [irreducible] turnV sN aN tR
theorem info71 : (Tryz.prog.info? 71).bind (·.zero) = some (.agg (u8s (List.replicate 16 0))) := by kernel_rfl
theorem size71 : (Tryz.prog.info? 71).map (·.size) = some 16 := by kernel_rfl
theorem info171 : (Tryz.prog.info? 171).bind (·.zero) = some (.agg (u8s (List.replicate 16 0))) := by kernel_rfl
theorem size171 : (Tryz.prog.info? 171).map (·.size) = some 16 := by kernel_rfl
/-- Turn's variables: the block, the result, the state. -/
structure TurnI (w w' : World) (g gb gr gs : Nat) (B blk S : List Int) : Prop where
 o : g < w.heap.size ∧ w.heap.size ≤ gb ∧ gb < gr ∧ gr < gs
 c : ∃ r, CipAt w' g 1 0 B r
 b : ArrB w' gb 71 blk
 r : ArrB w' gr 71 (List.replicate 16 0)
 s : ArrB w' gs 171 S
 f : Fr w w' (fun k => k = g)
section
variable {w w1 w2 : World} {g gb gr gs gt : Nat} {B blk S T : List Int}
theorem TurnI.below (h : TurnI w w1 g gb gr gs B blk S) (k : Below w1.heap.size w1 w2) : TurnI w w2 g gb gr gs B blk S :=
 ⟨h.o, let ⟨r, hr⟩ := h.c; ⟨r, hr.below k⟩, h.b.below k, h.r.below k, h.s.below k, h.f.then_below k⟩
theorem TurnI.drew (h : TurnI w w1 g gb gr gs B blk S) : TurnI w w1.drew g gb gr gs B blk S := h.below (below_drew (Below.refl _ _))
theorem TurnI.fr (h : TurnI w w1 g gb gr gs B blk S) (hg : gs < gt) (k : Fr w1 w2 (fun k => k = gt)) : TurnI w w2 g gb gr gs B blk S := by
 have := h.o
 exact ⟨h.o, let ⟨r, hr⟩ := h.c; ⟨r, hr.fr k (by show ¬ g = gt; omega)⟩, h.b.fr k (by show ¬ gb = gt; omega), h.r.fr k (by show ¬ gr = gt; omega), h.s.fr k (by show ¬ gs = gt; omega), h.f.trans k (fun i e => .inr (by omega))⟩
theorem TurnI.frS (h : TurnI w w1 g gb gr gs B blk S) {S' : List Int} (k : Fr w1 w2 (fun k => k = gs)) (hs : ArrB w2 gs 171 S') : TurnI w w2 g gb gr gs B blk S' := by
 have := h.o
 exact ⟨h.o, let ⟨r, hr⟩ := h.c; ⟨r, hr.fr k (by show ¬ g = gs; omega)⟩, h.b.fr k (by show ¬ gb = gs; omega), h.r.fr k (by show ¬ gr = gs; omega), hs, h.f.trans k (fun i e => .inr (by omega))⟩
theorem TurnI.setS (h : TurnI w w1 g gb gr gs B blk S) (i : Nat) (x : Int) : TurnI w (w1.setCell ⟨gs, i, none⟩ (.int .u8 x)) g gb gr gs B blk (S.set i x) :=
 h.frS ((Fr.refl w1 (fun k => k = gs)).setCell (p := ⟨gs, i, none⟩) (.inl rfl) _) (h.s.set i x)
/-- The same, t made too. -/
structure TurnT (w w' : World) (g gb gr gs gt : Nat) (B blk S T : List Int) : Prop where
 i : TurnI w w' g gb gr gs B blk S
 o : gs < gt
 t : ArrB w' gt 171 T
theorem TurnT.below (h : TurnT w w1 g gb gr gs gt B blk S T) (k : Below w1.heap.size w1 w2) : TurnT w w2 g gb gr gs gt B blk S T := ⟨h.i.below k, h.o, h.t.below k⟩
theorem TurnT.drew (h : TurnT w w1 g gb gr gs gt B blk S T) : TurnT w w1.drew g gb gr gs gt B blk S T := h.below (below_drew (Below.refl _ _))
theorem TurnT.frT (h : TurnT w w1 g gb gr gs gt B blk S T) {T' : List Int} (k : Fr w1 w2 (fun k => k = gt)) (ht : ArrB w2 gt 171 T') : TurnT w w2 g gb gr gs gt B blk S T' := ⟨h.i.fr h.o k, h.o, ht⟩
theorem TurnT.setT (h : TurnT w w1 g gb gr gs gt B blk S T) (i : Nat) (x : Int) : TurnT w (w1.setCell ⟨gt, i, none⟩ (.int .u8 x)) g gb gr gs gt B blk S (T.set i x) :=
 h.frT ((Fr.refl w1 (fun k => k = gt)).setCell (p := ⟨gt, i, none⟩) (.inl rfl) _) (h.t.set i x)
end
theorem ArrB.range4 {w : World} {g t : Nat} {l : List Int} (h : ArrB w g t l) (o : Nat) (hl : o + 4 ≤ l.length) : w.rangeAt g o ((sub4 l o).map (Value.int .u8)) := by
 intro j v hv
 match j, hv with
 | 0, hv => cases hv; exact h.cell o (by omega)
 | 1, hv => cases hv; exact h.cell (o + 1) (by omega)
 | 2, hv => cases hv; exact h.cell (o + 2) (by omega)
 | 3, hv => cases hv; exact h.cell (o + 3) (by omega)
end Go.Proofs.YteadamkkbgnpeaaGreat.A
end OfA6
section OfA7
set_option linter.unusedVariables false
set_option linter.unusedSimpArgs false
namespace Go.Proofs.YteadamkkbgnpeaaGreat.A
open Go.RowKit YteadamkkbgnpeaaGreatW.PrintLast B S QTC YteadamkkbgnpeaaGreatW.PrintWords YteadamkkbgnpeaaGreatW.PrintMore
def A_turn.T11 : Bool × List (List Nat × List Nat) := (true, [([], []), ([], []), ([], []), ([2], [2]), ([], []), ([3, 4], [3, 4]), ([5], [5]), ([6], [6]), ([], []), ([], []), ([], []), ([8], [8]), ([11], [11]), ([12, 9], [9, 12]), ([13, 10], [10, 13]), ([14], [14]), ([7, 15], [7, 15]), ([0], [0]), ([17, 1, 0, 1, 2, 3, 4, 5, 6, 7, 8, 9, 10, 11, 12, 13, 14, 15, 16], [1, 17]), ([18, 16, 0, 1, 2, 3, 4, 5, 6, 7, 8, 9, 10, 11, 12, 13, 14, 15, 16], [16, 18])])
def A_turn.B11 : List Nat := [0, 0, 0, 4, 0, 28, 60, 124, 0, 0, 0, 256, 2304, 6912, 16128, 32512, 65532, 1, 262143, 524287]
theorem A_turn.tab11 : rtab .any (opsOf Tryz.f69 11) = A_turn.T11 := by kernel_rfl
theorem A_turn.bits11 : waitsOk A_turn.T11.2 A_turn.B11 = true := by kernel_rfl
def A_turn.T24 : Bool × List (List Nat × List Nat) := (true, [([], []), ([], []), ([], []), ([], []), ([], []), ([3, 4], [3, 4]), ([5], [5]), ([], []), ([6], [6]), ([8, 7], [7, 8]), ([9], [9]), ([2], [2]), ([11], [11]), ([12, 10], [10, 12]), ([13], [13]), ([0], [0]), ([15, 1, 0, 1, 2, 3, 4, 5, 6, 7, 8, 9, 10, 11, 12, 13, 14], [1, 15]), ([16, 14, 0, 1, 2, 3, 4, 5, 6, 7, 8, 9, 10, 11, 12, 13, 14], [14, 16])])
def A_turn.B24 : List Nat := [0, 0, 0, 0, 0, 24, 56, 0, 120, 504, 1016, 4, 2052, 8188, 16380, 1, 65535, 131071]
theorem A_turn.tab24 : rtab .any (opsOf Tryz.f69 24) = A_turn.T24 := by kernel_rfl
theorem A_turn.bits24 : waitsOk A_turn.T24.2 A_turn.B24 = true := by kernel_rfl
def A_turn.T31 : Bool × List (List Nat × List Nat) := (true, [([], []), ([], []), ([0], [0]), ([2, 1], [1, 2]), ([3], [3]), ([], []), ([], []), ([6], [6]), ([], []), ([7, 8], [7, 8]), ([], []), ([5], [5]), ([11], [11]), ([12, 9], [9, 12]), ([13, 10], [10, 13]), ([14], [14]), ([4, 15], [4, 15]), ([0], [0]), ([17, 1, 0, 1, 2, 3, 4, 5, 6, 7, 8, 9, 10, 11, 12, 13, 14, 15, 16], [1, 17]), ([18, 16, 0, 1, 2, 3, 4, 5, 6, 7, 8, 9, 10, 11, 12, 13, 14, 15, 16], [16, 18])])
def A_turn.B31 : List Nat := [0, 0, 1, 7, 15, 0, 0, 64, 0, 448, 0, 32, 2080, 7136, 16352, 32736, 65535, 1, 262143, 524287]
theorem A_turn.tab31 : rtab .any (opsOf Tryz.f69 31) = A_turn.T31 := by kernel_rfl
theorem A_turn.bits31 : waitsOk A_turn.T31.2 A_turn.B31 = true := by kernel_rfl
def A_turn.T39 : Bool × List (List Nat × List Nat) := (true, [([], []), ([0], [0]), ([1], [1]), ([], []), ([3], [3]), ([4], [4]), ([2, 5], [2, 5])])
def A_turn.B39 : List Nat := [0, 1, 3, 0, 8, 24, 63]
theorem A_turn.tab39 : rtab .any (opsOf Tryz.f69 39) = A_turn.T39 := by kernel_rfl
theorem A_turn.bits39 : waitsOk A_turn.T39.2 A_turn.B39 = true := by kernel_rfl
set_option maxHeartbeats 16000000 in
set_option maxRecDepth 100000 in
theorem turn_calls (g : Nat) (key blk : List Int) (hk : key.length = 16 ∧ AllB key) (hl : blk.length = 16) (w : World) (hs : CipK w g key) :
  Calls Tryz.prog 69 #[.pointer (some ⟨g, 0, none⟩), .agg (u8s blk)] w fun e w' => e = .returned (.tuple #[.agg (u8s (turnV (cb key) blk)), .int .i64 0]) ∧ (∃ r, CipAt w' g 1 0 (cb key) r) ∧ Fr w w' (fun k => k = g) := by
 have HS := Aside0.mk hs
 have HK := Aside0.mk hk
 have HG : Aside0 (g < w.heap.size) := ⟨by obtain ⟨r, h | h⟩ := hs <;> exact blk_lt h⟩
 have HBl := Aside0.mk hl
 obtain ⟨B, hB⟩ : ∃ B, cb key = B := ⟨_, rfl⟩
 have HBB : Aside0 (B.length = 704 ∧ AllB B) := ⟨by rw [← hB]; exact cb_ok hk⟩
 rw [hB]
 have HBK := Aside0.mk hB
 clear hs hk hl hB
 go_enter Tryz.func69, Tryz.ntmps69
 go_wp2_with (first
  | ((with_reducible refine gate_dst (N := 3) rfl ?_); refine box_v rfl rfl rfl ?_; intro gb hg w1 hb hw; have HB1 := Aside0.mk hw; have HG1 := Aside0.mk hg; have HA1 : Aside0 (ArrB w1 gb 71 blk) := ⟨hb⟩; have HS1 : Aside0 (CipK w1 g key) := ⟨let ⟨r, hr⟩ := HS.out; ⟨r, hr.imp (fun h => h.below hw) (fun h => h.below hw)⟩⟩; clear hb hw hg)
  | ((with_reducible refine gate_dst (N := 4) rfl ?_); refine alloc_v rfl rfl info71 ?hr ?_; (case hr => rfl); intro gr hg w2 hb hw; have HB2 := Aside0.mk (below_step HB1.out hw); have HG2 := Aside0.mk hg; have HA2 := Aside0.mk (HA1.out.below hw); have HR2 : Aside0 (ArrB w2 gr 71 (List.replicate 16 0)) := ⟨hb⟩; have HS2 : Aside0 (CipK w2 g key) := ⟨let ⟨r, hr⟩ := HS1.out; ⟨r, hr.imp (fun h => h.below hw) (fun h => h.below hw)⟩⟩; clear hb hw hg)
  | (go_at_call 74; refine (ready_calls g key HK.out _ HS2.out).mono ?_; rintro e w3 ⟨rfl, ⟨r3, hs⟩, hf⟩; rw [HBK.out] at hs; have HN3 : Aside0 (g < gb ∧ gb < gr ∧ w.heap.size ≤ gb ∧ gr < w3.heap.size) := ⟨by have := HG.out; have := HG1.out; have := HG2.out; have := blk_lt HA1.out; have := hf.size; have := blk_lt HR2.out; have := HB1.out.size; omega⟩; have HS3 := Aside0.mk hs; have HA3 := Aside0.mk (HA2.out.fr hf (by have := HN3.out; show ¬ gb = g; omega)); have HR3 := Aside0.mk (HR2.out.fr hf (by have := HN3.out; show ¬ gr = g; omega)); have HF3 := Aside0.mk (((Fr.refl w (fun k => k = g)).then_below HB2.out).trans hf (fun k e => .inl e)); clear hs hf)
  | (go_at_call 75; refine (add64_calls g r3 _ (HS3.out.cr HBB.out.1) (HS3.out.fz 708)).mono ?_; rintro e w4 ⟨rfl, hw⟩; have HS4 : Aside0 (CipAt w4 g 1 0 B (wrap64 (r3 + 1))) := ⟨by rw [hw]; exact HS3.out.setr HBB.out.1 _⟩; have HA4 : Aside0 (ArrB w4 gb 71 blk) := ⟨by rw [hw]; exact ArrB.far HA3.out (by have := HN3.out; show gb ≠ g; omega) _⟩; have HR4 : Aside0 (ArrB w4 gr 71 (List.replicate 16 0)) := ⟨by rw [hw]; exact ArrB.far HR3.out (by have := HN3.out; show gr ≠ g; omega) _⟩; have HF4 : Aside0 (Fr w w4 (fun k => k = g)) := ⟨by rw [hw]; exact HF3.out.setCell (p := ⟨g, 708, none⟩) (.inl rfl) _⟩; have HN4 : Aside0 (w3.heap.size ≤ w4.heap.size) := ⟨by rw [hw]; simp [World.setCell]⟩; clear hw)
  | ((with_reducible refine gate_dst (N := 6) rfl ?_); refine alloc_v rfl rfl info171 ?hr ?_; (case hr => rfl); intro gs hg w5 hb hw; have HI : Aside0 (TurnI w w5 g gb gr gs B blk (aN B blk 0)) := ⟨⟨by have := HG.out; have := HN3.out; have := HN4.out; omega, ⟨_, HS4.out.below hw⟩, HA4.out.below hw, HR4.out.below hw, by rw [aN_zero]; exact hb, HF4.out.then_below hw⟩⟩; clear hb hw hg))
 clear HB1 HG1 HA1 HS1 HB2 HG2 HA2 HR2 HS2 HN3 HS3 HA3 HR3 HF3 HS4 HA4 HR4 HF4 HN4 HS HG
 go_loopg [24] 5 (fun kq v24 w' => ∃ i : Nat, v24 = .int .i64 (i : Int) ∧ Aside0 (kq = 5 - i ∧ i ≤ 4) ∧ Aside0 (TurnI w w' g gb gr gs B blk (aN B blk (4 * i))))
 case atStart => exact ⟨0, by first | rfl | simp, ⟨by omega⟩, HI⟩
 case round =>
  obtain ⟨i, rfl, HKi, HI1⟩ := hrel
  clear HI
  by_cases c1 : (i : Int) < 4
  ·have c1b : decide ((i : Int) < 4) = true := decide_eq_true c1
   have HIi : Aside0 (i < 4) := ⟨by omega⟩
   obtain ⟨n4, hn4⟩ : ∃ n, 4 * i = n := ⟨_, rfl⟩
   have e4 : wrap64 (4 * (i : Int)) = (n4 : Int) := by rw [← hn4]; unfold wrap64; omega
   have HN := Aside0.mk hn4
   rw [hn4] at HI1
   have hix := eq_true c1
   have hi44 := eq_true (show (i : Int) < 44 by omega)
   have hi0 := eq_true (Int.natCast_nonneg i)
   clear hn4 c1
   go_wp2
   go_loopg [27] 5 (fun kq v27 w' => ∃ k : Nat, v27 = .int .i64 (k : Int) ∧ Aside0 (kq = 5 - k ∧ k ≤ 4) ∧ Aside0 (TurnI w w' g gb gr gs B blk (aN B blk (n4 + k))))
   case atStart => exact ⟨0, by first | rfl | simp, ⟨by omega⟩, HI1⟩
   case round =>
    obtain ⟨k, rfl, HKk, HI2⟩ := hrel
    clear HI1
    by_cases c2 : (k : Int) < 4
    ·have c2b : decide ((k : Int) < 4) = true := decide_eq_true c2
     have HIk : Aside0 (k < 4) := ⟨by omega⟩
     obtain ⟨nn, hnn⟩ : ∃ n, n4 + k = n := ⟨_, rfl⟩
     have hnl : nn < 16 := by have := HIi.out; have := HN.out; omega
     have e5 : wrap64 ((n4 : Int) + (k : Int)) = (nn : Int) := by rw [← hnn]; unfold wrap64; omega
     have hn0 := eq_true (Int.natCast_nonneg nn)
     have hn16 := eq_true (show (nn : Int) < 16 by omega)
     have hkx := eq_true c2
     have hk0 := eq_true (Int.natCast_nonneg k)
     have HNN : Aside0 (n4 + k = nn ∧ nn < 16) := ⟨hnn, hnl⟩
     rw [hnn] at HI2
     obtain ⟨xa, hxa⟩ : ∃ x, blk.getD nn 0 = x := ⟨_, rfl⟩
     obtain ⟨xb, hxb⟩ : ∃ x, B.getD (528 + nn) 0 = x := ⟨_, rfl⟩
     have qa := HI2.out.b.cell nn (by rw [HBl.out]; exact hnl)
     obtain ⟨rr, hc⟩ := HI2.out.c
     have qb := hc.cell (528 + nn) (by rw [HBB.out.1]; omega)
     rw [hxa] at qa
     rw [hxb, show 4 + (528 + nn) = 532 + i * 4 + k by have := HN.out; omega] at qb
     have HX := Aside0.mk (show blk.getD nn 0 = xa ∧ B.getD (528 + nn) 0 = xb from ⟨hxa, hxb⟩)
     clear hxa hxb hc hnn hnl c2
     go_wp2
     have Q1 : Aside0 (wr.drew.cell? ⟨gb, nn, none⟩ = some (.int .u8 xa)) := ⟨qa⟩
     have Q2 : Aside0 (wr.drew.cell? ⟨g, 532 + i * 4 + k, none⟩ = some (.int .u8 xb)) := ⟨qb⟩
     have HX1 : Aside0 (TurnI w wr.drew g gb gr gs B blk (aN B blk nn)) := ⟨HI2.out.drew⟩
     clear qa qb
     refine start_ (n := 20) (S := fun w' => w'.cell? ⟨gb, nn, none⟩ = some (.int .u8 xa) ∧ w'.cell? ⟨g, 532 + i * 4 + k, none⟩ = some (.int .u8 xb)) (ds := [19]) #[false, false, false, false, false, false, false, false, false, false, false, false, false, false, false, false, false, false, false, false] (by kernel_rfl) rfl rfl ⟨Q1.out, Q2.out⟩ (fun hHeld => ?_)
     refine with_tabW A_turn.tab11 A_turn.bits11 (fun HT_ HW_ => ?_)
     generalize wr.drew = x1 at Q1 Q2 HX1 hHeld ⊢
     refine pure_ (i := 0) (N := some 30) (v := ?_) (a' := ?_) #[true, false, false, false, false, false, false, false, false, false, false, false, false, false, false, false, false, false, false, false] rfl rfl (any_of HT_.out (by kernel_rfl)) (fun _ _ _ h => h) (Or.inl ⟨by rfl, ?_⟩) ?_ ?_
     rotate_left
     ·intro w'
      go_simp
      with_reducible rfl
     rotate_left
     ·simp only [Act.put, List.setIfInBounds_toArray, List.set_cons_zero, List.set_cons_succ, i64_w, i32_w]
      rfl
     refine pure_ (i := 1) (N := some 31) (v := ?_) (a' := ?_) #[true, true, false, false, false, false, false, false, false, false, false, false, false, false, false, false, false, false, false, false] rfl rfl (any_of HT_.out (by kernel_rfl)) (fun _ _ _ h => h) (Or.inl ⟨by rfl, ?_⟩) ?_ ?_
     rotate_left
     ·intro w'
      go_simp
      with_reducible rfl
     rotate_left
     ·simp only [Act.put, List.setIfInBounds_toArray, List.set_cons_zero, List.set_cons_succ, i64_w, i32_w]
      rfl
     refine pure_ (i := 2) (N := some 32) (v := ?_) (a' := ?_) #[true, true, true, false, false, false, false, false, false, false, false, false, false, false, false, false, false, false, false, false] rfl rfl (any_of HT_.out (by kernel_rfl)) (fun _ _ _ h => h) (Or.inl ⟨by rfl, ?_⟩) ?_ ?_
     rotate_left
     ·intro w'
      go_simp
      with_reducible rfl
     rotate_left
     ·simp only [Act.put, List.setIfInBounds_toArray, List.set_cons_zero, List.set_cons_succ, i64_w, i32_w]
      rfl
     refine pure_ (i := 3) (N := some 33) (v := ?_) (a' := ?_) #[true, true, true, true, false, false, false, false, false, false, false, false, false, false, false, false, false, false, false, false] rfl rfl (any_of HT_.out (by kernel_rfl)) (fun _ _ _ h => h) (Or.inl ⟨by rfl, ?_⟩) ?_ ?_
     rotate_left
     ·intro w'
      go_simp
      with_reducible rfl
     rotate_left
     ·simp only [Act.put, List.setIfInBounds_toArray, List.set_cons_zero, List.set_cons_succ, i64_w, i32_w]
      rfl
     refine pure_ (i := 4) (N := some 34) (v := ?_) (a' := ?_) #[true, true, true, true, true, false, false, false, false, false, false, false, false, false, false, false, false, false, false, false] rfl rfl (any_of HT_.out (by kernel_rfl)) (fun _ _ _ h => h) (Or.inl ⟨by rfl, ?_⟩) ?_ ?_
     rotate_left
     ·intro w'
      go_simp
      with_reducible rfl
     rotate_left
     ·simp only [Act.put, List.setIfInBounds_toArray, List.set_cons_zero, List.set_cons_succ, i64_w, i32_w]
      rfl
     refine pure_ (i := 5) (N := some 35) (v := ?_) (a' := ?_) #[true, true, true, true, true, true, false, false, false, false, false, false, false, false, false, false, false, false, false, false] rfl rfl (any_of HT_.out (by kernel_rfl)) (fun _ _ _ h => h) (Or.inl ⟨by rfl, ?_⟩) ?_ ?_
     rotate_left
     ·intro w'
      go_simp
      with_reducible rfl
     rotate_left
     ·simp only [Act.put, List.setIfInBounds_toArray, List.set_cons_zero, List.set_cons_succ, i64_w, i32_w]
      rfl
     refine pure_ (i := 6) (N := some 36) (v := ?_) (a' := ?_) #[true, true, true, true, true, true, true, false, false, false, false, false, false, false, false, false, false, false, false, false] rfl rfl (any_of HT_.out (by kernel_rfl)) (fun _ _ _ h => h) (Or.inl ⟨by rfl, ?_⟩) ?_ ?_
     rotate_left
     ·intro w'
      go_simp
      with_reducible rfl
     rotate_left
     ·simp only [Act.put, List.setIfInBounds_toArray, List.set_cons_zero, List.set_cons_succ, i64_w, i32_w]
      rfl
     refine pure_ (i := 8) (N := some 38) (v := ?_) (a' := ?_) #[true, true, true, true, true, true, true, false, true, false, false, false, false, false, false, false, false, false, false, false] rfl rfl (any_of HT_.out (by kernel_rfl)) (fun _ _ _ h => h) (Or.inl ⟨by rfl, ?_⟩) ?_ ?_
     rotate_left
     ·intro w'
      go_simp
      with_reducible rfl
     rotate_left
     ·simp only [Act.put, List.setIfInBounds_toArray, List.set_cons_zero, List.set_cons_succ, i64_w, i32_w]
      rfl
     refine pure_ (i := 9) (N := some 39) (v := ?_) (a' := ?_) #[true, true, true, true, true, true, true, false, true, true, false, false, false, false, false, false, false, false, false, false] rfl rfl (any_of HT_.out (by kernel_rfl)) (fun _ _ _ h => h) (Or.inl ⟨by rfl, ?_⟩) ?_ ?_
     rotate_left
     ·intro w'
      go_simp
      with_reducible rfl
     rotate_left
     ·simp only [Act.put, List.setIfInBounds_toArray, List.set_cons_zero, List.set_cons_succ, i64_w, i32_w]
      rfl
     refine pure_ (i := 10) (N := some 40) (v := ?_) (a' := ?_) #[true, true, true, true, true, true, true, false, true, true, true, false, false, false, false, false, false, false, false, false] rfl rfl (any_of HT_.out (by kernel_rfl)) (fun _ _ _ h => h) (Or.inl ⟨by rfl, ?_⟩) ?_ ?_
     rotate_left
     ·intro w'
      go_simp
      with_reducible rfl
     rotate_left
     ·simp only [Act.put, List.setIfInBounds_toArray, List.set_cons_zero, List.set_cons_succ, i64_w, i32_w]
      rfl
     refine pure_ (i := 11) (N := some 41) (v := ?_) (a' := ?_) #[true, true, true, true, true, true, true, false, true, true, true, true, false, false, false, false, false, false, false, false] rfl rfl (any_of HT_.out (by kernel_rfl)) (fun _ _ _ h => h) (Or.inl ⟨by rfl, ?_⟩) ?_ ?_
     rotate_left
     ·intro w'
      go_simp
      with_reducible rfl
     rotate_left
     ·simp only [Act.put, List.setIfInBounds_toArray, List.set_cons_zero, List.set_cons_succ, i64_w, i32_w]
      rfl
     refine pure_ (i := 12) (N := some 42) (v := ?_) (a' := ?_) #[true, true, true, true, true, true, true, false, true, true, true, true, true, false, false, false, false, false, false, false] rfl rfl (any_of HT_.out (by kernel_rfl)) (fun _ _ _ h => h) (Or.inl ⟨by rfl, ?_⟩) ?_ ?_
     rotate_left
     ·intro w'
      go_simp
      with_reducible rfl
     rotate_left
     ·simp only [Act.put, List.setIfInBounds_toArray, List.set_cons_zero, List.set_cons_succ, i64_w, i32_w]
      rfl
     refine pure_ (i := 13) (N := some 43) (v := ?_) (a' := ?_) #[true, true, true, true, true, true, true, false, true, true, true, true, true, true, false, false, false, false, false, false] rfl rfl (any_of HT_.out (by kernel_rfl)) (fun _ _ _ h => h) (Or.inl ⟨by rfl, ?_⟩) ?_ ?_
     rotate_left
     ·intro w'
      go_simp
      with_reducible rfl
     rotate_left
     ·simp only [Act.put, List.setIfInBounds_toArray, List.set_cons_zero, List.set_cons_succ, i64_w, i32_w]
      rfl
     refine pure_ (i := 14) (N := some 44) (v := ?_) (a' := ?_) #[true, true, true, true, true, true, true, false, true, true, true, true, true, true, true, false, false, false, false, false] rfl rfl (any_of HT_.out (by kernel_rfl)) (fun _ _ _ h => h) (Or.inl ⟨by rfl, ?_⟩) ?_ ?_
     rotate_left
     ·intro w'
      go_simp
      with_reducible rfl
     rotate_left
     ·simp only [Act.put, List.setIfInBounds_toArray, List.set_cons_zero, List.set_cons_succ, i64_w, i32_w]
      rfl
     refine pure_ (i := 17) (N := some 47) (v := ?_) (a' := ?_) #[true, true, true, true, true, true, true, false, true, true, true, true, true, true, true, false, false, true, false, false] rfl rfl (any_of HT_.out (by kernel_rfl)) (fun _ _ _ h => h) (Or.inl ⟨by rfl, ?_⟩) ?_ ?_
     rotate_left
     ·intro w'
      go_simp
      with_reducible rfl
     rotate_left
     ·simp only [Act.put, List.setIfInBounds_toArray, List.set_cons_zero, List.set_cons_succ, i64_w, i32_w]
      rfl
     refine take_ (i := 7) (N := some 37) (v := ?_) (a' := ?_) #[true, true, true, true, true, true, true, true, true, true, true, true, true, true, true, false, false, true, false, false] rfl rfl (take_ofW HT_.out HW_.out (by kernel_rfl)) (fun _ _ _ h => h) (Or.inl ⟨by rfl, ?_⟩) hHeld ?_ ?_
     rotate_left
     ·rintro w' ⟨s0, s1⟩
      go_simp
      with_reducible rfl
     rotate_left
     ·simp only [Act.put, List.setIfInBounds_toArray, List.set_cons_zero, List.set_cons_succ, i64_w, i32_w]
      rfl
     refine take_ (i := 15) (N := some 45) (v := ?_) (a' := ?_) #[true, true, true, true, true, true, true, true, true, true, true, true, true, true, true, true, false, true, false, false] rfl rfl (take_ofW HT_.out HW_.out (by kernel_rfl)) (fun _ _ _ h => h) (Or.inl ⟨by rfl, ?_⟩) hHeld ?_ ?_
     rotate_left
     ·rintro w' ⟨s0, s1⟩
      go_simp
      with_reducible rfl
     rotate_left
     ·simp only [Act.put, List.setIfInBounds_toArray, List.set_cons_zero, List.set_cons_succ, i64_w, i32_w]
      rfl
     refine pure_ (i := 16) (N := some 46) (v := ?_) (a' := ?_) #[true, true, true, true, true, true, true, true, true, true, true, true, true, true, true, true, true, true, false, false] rfl rfl (any_of HT_.out (by kernel_rfl)) (fun _ _ _ h => h) (Or.inl ⟨by rfl, ?_⟩) ?_ ?_
     rotate_left
     ·intro w'
      go_simp
      with_reducible rfl
     rotate_left
     ·simp only [Act.put, List.setIfInBounds_toArray, List.set_cons_zero, List.set_cons_succ, i64_w, i32_w]
      rfl
     refine pure_ (i := 18) (N := some 48) (v := ?_) (a' := ?_) #[true, true, true, true, true, true, true, true, true, true, true, true, true, true, true, true, true, true, true, false] rfl rfl (any_of HT_.out (by kernel_rfl)) (fun _ _ _ h => h) (Or.inl ⟨by rfl, ?_⟩) ?_ ?_
     rotate_left
     ·intro w'
      go_simp
      with_reducible rfl
     rotate_left
     ·simp only [Act.put, List.setIfInBounds_toArray, List.set_cons_zero, List.set_cons_succ, i64_w, i32_w]
      rfl
     refine last_ (i := 19) (N := none) #[true, true, true, true, true, true, true, true, true, true, true, true, true, true, true, true, true, true, true, true] rfl rfl (one_of HT_.out (by kernel_rfl)) (by decide) (fun K hK => ?_)
     have hcs := HX1.out.s.cell (i * 4 + k) (by rw [(aN_ok B blk nn).1]; have := HIi.out; have := HIk.out; omega)
     have hfs := HX1.out.s.frozen (i * 4 + k)
     refine skip_ (w1 := World.setCell x1 ⟨gs, i * 4 + k, none⟩ (.int .u8 (x8 xa xb))) (by rfl) rfl ?_ ?_
     ·go_simp
     have HX2 : Aside0 (TurnI w (World.setCell x1 ⟨gs, i * 4 + k, none⟩ (.int .u8 (x8 xa xb))) g gb gr gs B blk ((aN B blk nn).set nn (x8 xa xb))) := ⟨by have := HX1.out.setS nn (x8 xa xb); rw [show nn = i * 4 + k by have := HNN.out; have := HN.out; omega] at this ⊢; exact this⟩
     generalize World.setCell x1 ⟨gs, i * 4 + k, none⟩ (.int .u8 (x8 xa xb)) = x2 at HX2 ⊢
     refine hK.out _ _ ?_
     clear hK K
     refine done_ (done_of HT_.out (by kernel_rfl)) ?_

     go_wp2
     go_roundg (gk - 1)
     case measure => have := HKk.out; have := HIk.out; omega
     case rel =>
      refine ⟨k + 1, ?_, ⟨by have := HKk.out; have := HIk.out; omega⟩, ⟨?_⟩⟩
      ·have := HIk.out
       first
       | rfl
       | (congr 1; unfold wrap64; omega)
       | (congr 1; done)
      ·rw [← Nat.add_assoc, HNN.out.1, aN_succ, HX.out.1, HX.out.2]
       exact HX2.out
    ·have hk : k = 4 := by have := HKk.out; omega
     have c2b : decide ((k : Int) < 4) = false := decide_eq_false c2
     clear c2
     subst hk
     go_wp2
     go_roundg (4 - i)
     case measure => have := HKi.out; have := HIi.out; omega
     case rel =>
      refine ⟨i + 1, ?_, ⟨by have := HKi.out; have := HIi.out; omega⟩, ⟨?_⟩⟩
      ·have := HIi.out
       first
       | rfl
       | (congr 1; unfold wrap64; omega)
       | (congr 1; done)
      ·rw [show 4 * (i + 1) = n4 + 4 by have := HN.out; omega]
       exact HI2.out
  ·have hi : i = 4 := by have := HKi.out; omega
   have c1b : decide ((i : Int) < 4) = false := decide_eq_false c1
   clear c1
   subst hi
   have HI2 : Aside0 (TurnI w wr g gb gr gs B blk (sN B blk 0)) := ⟨by rw [sN_zero]; exact HI1.out⟩
   clear HI1 HKi
   go_wp2
   go_loopg [9] 11 (fun kq v9 w' => ∃ r : Nat, v9 = .int .i64 ((r + 1 : Nat) : Int) ∧ Aside0 (kq = 11 - r ∧ r ≤ 10) ∧ Aside0 (TurnI w w' g gb gr gs B blk (sN B blk r)))
   case atStart => exact ⟨0, by first | rfl | simp, ⟨by omega⟩, HI2⟩
   case round =>
    obtain ⟨r, rfl, HKr, HIr⟩ := hrel
    clear HI2
    obtain ⟨S, hS⟩ : ∃ S, sN B blk r = S := ⟨_, rfl⟩
    have HSS := Aside0.mk (show S.length = 16 ∧ AllB S by rw [← hS]; exact sN_ok blk HBB.out.2 r)
    rw [hS] at HIr
    have HSr := Aside0.mk hS
    clear hS
    obtain ⟨r1, hr1⟩ : ∃ q, r + 1 = q := ⟨_, rfl⟩
    rw [hr1]
    have HR1 := Aside0.mk hr1
    by_cases c3 : (r1 : Int) ≤ 10
    ·have c3b : decide ((r1 : Int) ≤ 10) = true := decide_eq_true c3
     have HRr : Aside0 (1 ≤ r1 ∧ r1 ≤ 10) := ⟨by omega⟩
     clear c3 hr1
     go_wp2_with (first
      | ((with_reducible refine gate_dst (N := 10) rfl ?_); refine alloc_v rfl rfl info171 ?hr ?_; (case hr => rfl); intro gt hg w6 hb hw; have HT : Aside0 (TurnT w w6 g gb gr gs gt B blk S (tR B S r1 0)) := ⟨⟨HIr.out.below hw, by have := blk_lt HIr.out.s; omega, by rw [tR_zero]; exact hb⟩⟩; clear hb hw hg))
     go_loopg [55] 5 (fun kq v55 w' => ∃ i : Nat, v55 = .int .i64 (i : Int) ∧ Aside0 (kq = 5 - i ∧ i ≤ 4) ∧ Aside0 (TurnT w w' g gb gr gs gt B blk S (tR B S r1 i)))
     case atStart => exact ⟨0, by first | rfl | simp, ⟨by omega⟩, HT⟩
     case round =>
      obtain ⟨i, rfl, HKi, HTi⟩ := hrel
      clear HT HIr
      obtain ⟨T0, hT0⟩ : ∃ T, tR B S r1 i = T := ⟨_, rfl⟩
      have HT0 := Aside0.mk (show T0.length = 16 ∧ AllB T0 by rw [← hT0]; exact tR_ok r1 HBB.out.2 i (by have := HKi.out; omega))
      rw [hT0] at HTi
      have HTT := Aside0.mk hT0
      clear hT0
      by_cases c1 : (i : Int) < 4
      ·have c1b : decide ((i : Int) < 4) = true := decide_eq_true c1
       have HIi : Aside0 (i < 4) := ⟨by omega⟩
       have hix := eq_true c1
       have hi0 := eq_true (Int.natCast_nonneg i)
       clear c1
       go_wp2
       go_loopg [58] 5 (fun kq v58 w' => ∃ k : Nat, v58 = .int .i64 (k : Int) ∧ Aside0 (kq = 5 - k ∧ k ≤ 4) ∧ Aside0 (TurnT w w' g gb gr gs gt B blk S (tA B S T0 i k)))
       case atStart => exact ⟨0, by first | rfl | simp, ⟨by omega⟩, HTi⟩
       case round =>
        obtain ⟨k, rfl, HKk, HTk⟩ := hrel
        clear HTi
        have hok := tA_ok (s := S) i HBB.out.2 HT0.out k
        have HOK := Aside0.mk hok
        by_cases c2 : (k : Int) < 4
        ·have c2b : decide ((k : Int) < 4) = true := decide_eq_true c2
         have HIk : Aside0 (k < 4) := ⟨by omega⟩
         have hkx := eq_true c2
         have hk0 := eq_true (Int.natCast_nonneg k)
         obtain ⟨m, hm⟩ : ∃ m, (i + k) % 4 = m := ⟨_, rfl⟩
         have hml : m < 4 := by rw [← hm]; exact Nat.mod_lt _ (by decide)
         have m0 := eq_true (Int.natCast_nonneg m)
         have m1 := eq_true (show (m : Int) < 4 from Int.ofNat_lt.2 hml)
         have e6 : (wrap64 ((i : Int) + (k : Int))).tmod 4 = (m : Int) := by
          rw [← hm]
          exact tmod_n i k 4 (by have := HIi.out; have := HIk.out; omega)
         obtain ⟨j, hj⟩ : ∃ j : Nat, S.getD (4 * m + k) 0 = (j : Int) := Int.eq_ofNat_of_zero_le (HSS.out.2.getD _).1
         have hj1 := (HSS.out.2.getD (4 * m + k)).2
         rw [hj] at hj1
         have j0 := eq_true (Int.natCast_nonneg j)
         have j1 := eq_true hj1
         obtain ⟨z, hz⟩ : ∃ z, B.getD (16 + j) 0 = z := ⟨_, rfl⟩
         have qa := HTk.out.i.s.cell (4 * m + k) (by rw [HSS.out.1]; have := HIk.out; omega)
         obtain ⟨rr, hc⟩ := HTk.out.i.c
         have qb := hc.cell (16 + j) (by rw [HBB.out.1]; omega)
         rw [hj, show 4 * m + k = m * 4 + k by omega] at qa
         rw [hz, show 4 + (16 + j) = 20 + j by omega] at qb
         have HX : Aside0 (B.getD (16 + (S.getD (4 * ((i + k) % 4) + k) 0).toNat) 0 = z) := ⟨by rw [hm, hj, Int.toNat_natCast, hz]⟩
         clear hj hz hc hm hml c2 hj1 hok
         go_wp2
         have Q1 : Aside0 (wr.drew.cell? ⟨gs, m * 4 + k, none⟩ = some (.int .u8 (j : Int))) := ⟨qa⟩
         have Q2 : Aside0 (wr.drew.cell? ⟨g, 20 + j, none⟩ = some (.int .u8 z)) := ⟨qb⟩
         have HX1 : Aside0 (TurnT w wr.drew g gb gr gs gt B blk S (tA B S T0 i k)) := ⟨HTk.out.drew⟩
         clear qa qb
         refine start_ (n := 18) (S := fun w' => w'.cell? ⟨gs, m * 4 + k, none⟩ = some (.int .u8 (j : Int)) ∧ w'.cell? ⟨g, 20 + j, none⟩ = some (.int .u8 z)) (ds := [17]) #[false, false, false, false, false, false, false, false, false, false, false, false, false, false, false, false, false, false] (by kernel_rfl) rfl rfl ⟨Q1.out, Q2.out⟩ (fun hHeld => ?_)
         refine with_tabW A_turn.tab24 A_turn.bits24 (fun HT_ HW_ => ?_)
         generalize wr.drew = x1 at Q1 Q2 HX1 hHeld ⊢
         refine pure_ (i := 0) (N := some 61) (v := ?_) (a' := ?_) #[true, false, false, false, false, false, false, false, false, false, false, false, false, false, false, false, false, false] rfl rfl (any_of HT_.out (by kernel_rfl)) (fun _ _ _ h => h) (Or.inl ⟨by rfl, ?_⟩) ?_ ?_
         rotate_left
         ·intro w'
          go_simp
          with_reducible rfl
         rotate_left
         ·simp only [Act.put, List.setIfInBounds_toArray, List.set_cons_zero, List.set_cons_succ, i64_w, i32_w]
          rfl
         refine pure_ (i := 1) (N := some 62) (v := ?_) (a' := ?_) #[true, true, false, false, false, false, false, false, false, false, false, false, false, false, false, false, false, false] rfl rfl (any_of HT_.out (by kernel_rfl)) (fun _ _ _ h => h) (Or.inl ⟨by rfl, ?_⟩) ?_ ?_
         rotate_left
         ·intro w'
          go_simp
          with_reducible rfl
         rotate_left
         ·simp only [Act.put, List.setIfInBounds_toArray, List.set_cons_zero, List.set_cons_succ, i64_w, i32_w]
          rfl
         refine pure_ (i := 2) (N := some 63) (v := ?_) (a' := ?_) #[true, true, true, false, false, false, false, false, false, false, false, false, false, false, false, false, false, false] rfl rfl (any_of HT_.out (by kernel_rfl)) (fun _ _ _ h => h) (Or.inl ⟨by rfl, ?_⟩) ?_ ?_
         rotate_left
         ·intro w'
          go_simp
          with_reducible rfl
         rotate_left
         ·simp only [Act.put, List.setIfInBounds_toArray, List.set_cons_zero, List.set_cons_succ, i64_w, i32_w]
          rfl
         refine pure_ (i := 3) (N := some 64) (v := ?_) (a' := ?_) #[true, true, true, true, false, false, false, false, false, false, false, false, false, false, false, false, false, false] rfl rfl (any_of HT_.out (by kernel_rfl)) (fun _ _ _ h => h) (Or.inl ⟨by rfl, ?_⟩) ?_ ?_
         rotate_left
         ·intro w'
          go_simp
          with_reducible rfl
         rotate_left
         ·simp only [Act.put, List.setIfInBounds_toArray, List.set_cons_zero, List.set_cons_succ, i64_w, i32_w]
          rfl
         refine pure_ (i := 4) (N := some 65) (v := ?_) (a' := ?_) #[true, true, true, true, true, false, false, false, false, false, false, false, false, false, false, false, false, false] rfl rfl (any_of HT_.out (by kernel_rfl)) (fun _ _ _ h => h) (Or.inl ⟨by rfl, ?_⟩) ?_ ?_
         rotate_left
         ·intro w'
          go_simp
          with_reducible rfl
         rotate_left
         ·simp only [Act.put, List.setIfInBounds_toArray, List.set_cons_zero, List.set_cons_succ, i64_w, i32_w]
          rfl
         refine pure_ (i := 5) (N := some 66) (v := ?_) (a' := ?_) #[true, true, true, true, true, true, false, false, false, false, false, false, false, false, false, false, false, false] rfl rfl (any_of HT_.out (by kernel_rfl)) (fun _ _ _ h => h) (Or.inl ⟨by rfl, ?_⟩) ?_ ?_
         rotate_left
         ·intro w'
          go_simp
          with_reducible rfl
         rotate_left
         ·simp only [Act.put, List.setIfInBounds_toArray, List.set_cons_zero, List.set_cons_succ, i64_w, i32_w]
          rfl
         refine pure_ (i := 6) (N := some 67) (v := ?_) (a' := ?_) #[true, true, true, true, true, true, true, false, false, false, false, false, false, false, false, false, false, false] rfl rfl (any_of HT_.out (by kernel_rfl)) (fun _ _ _ h => h) (Or.inl ⟨by rfl, ?_⟩) ?_ ?_
         rotate_left
         ·intro w'
          go_simp
          with_reducible rfl
         rotate_left
         ·simp only [Act.put, List.setIfInBounds_toArray, List.set_cons_zero, List.set_cons_succ, i64_w, i32_w]
          rfl
         refine pure_ (i := 7) (N := some 68) (v := ?_) (a' := ?_) #[true, true, true, true, true, true, true, true, false, false, false, false, false, false, false, false, false, false] rfl rfl (any_of HT_.out (by kernel_rfl)) (fun _ _ _ h => h) (Or.inl ⟨by rfl, ?_⟩) ?_ ?_
         rotate_left
         ·intro w'
          go_simp
          with_reducible rfl
         rotate_left
         ·simp only [Act.put, List.setIfInBounds_toArray, List.set_cons_zero, List.set_cons_succ, i64_w, i32_w]
          rfl
         refine pure_ (i := 8) (N := some 69) (v := ?_) (a' := ?_) #[true, true, true, true, true, true, true, true, true, false, false, false, false, false, false, false, false, false] rfl rfl (any_of HT_.out (by kernel_rfl)) (fun _ _ _ h => h) (Or.inl ⟨by rfl, ?_⟩) ?_ ?_
         rotate_left
         ·intro w'
          go_simp
          with_reducible rfl
         rotate_left
         ·simp only [Act.put, List.setIfInBounds_toArray, List.set_cons_zero, List.set_cons_succ, i64_w, i32_w]
          rfl
         refine pure_ (i := 9) (N := some 70) (v := ?_) (a' := ?_) #[true, true, true, true, true, true, true, true, true, true, false, false, false, false, false, false, false, false] rfl rfl (any_of HT_.out (by kernel_rfl)) (fun _ _ _ h => h) (Or.inl ⟨by rfl, ?_⟩) ?_ ?_
         rotate_left
         ·intro w'
          go_simp
          with_reducible rfl
         rotate_left
         ·simp only [Act.put, List.setIfInBounds_toArray, List.set_cons_zero, List.set_cons_succ, i64_w, i32_w]
          rfl
         refine pure_ (i := 11) (N := some 72) (v := ?_) (a' := ?_) #[true, true, true, true, true, true, true, true, true, true, false, true, false, false, false, false, false, false] rfl rfl (any_of HT_.out (by kernel_rfl)) (fun _ _ _ h => h) (Or.inl ⟨by rfl, ?_⟩) ?_ ?_
         rotate_left
         ·intro w'
          go_simp
          with_reducible rfl
         rotate_left
         ·simp only [Act.put, List.setIfInBounds_toArray, List.set_cons_zero, List.set_cons_succ, i64_w, i32_w]
          rfl
         refine pure_ (i := 12) (N := some 73) (v := ?_) (a' := ?_) #[true, true, true, true, true, true, true, true, true, true, false, true, true, false, false, false, false, false] rfl rfl (any_of HT_.out (by kernel_rfl)) (fun _ _ _ h => h) (Or.inl ⟨by rfl, ?_⟩) ?_ ?_
         rotate_left
         ·intro w'
          go_simp
          with_reducible rfl
         rotate_left
         ·simp only [Act.put, List.setIfInBounds_toArray, List.set_cons_zero, List.set_cons_succ, i64_w, i32_w]
          rfl
         refine pure_ (i := 15) (N := some 76) (v := ?_) (a' := ?_) #[true, true, true, true, true, true, true, true, true, true, false, true, true, false, false, true, false, false] rfl rfl (any_of HT_.out (by kernel_rfl)) (fun _ _ _ h => h) (Or.inl ⟨by rfl, ?_⟩) ?_ ?_
         rotate_left
         ·intro w'
          go_simp
          with_reducible rfl
         rotate_left
         ·simp only [Act.put, List.setIfInBounds_toArray, List.set_cons_zero, List.set_cons_succ, i64_w, i32_w]
          rfl
         refine take_ (i := 10) (N := some 71) (v := ?_) (a' := ?_) #[true, true, true, true, true, true, true, true, true, true, true, true, true, false, false, true, false, false] rfl rfl (take_ofW HT_.out HW_.out (by kernel_rfl)) (fun _ _ _ h => h) (Or.inl ⟨by rfl, ?_⟩) hHeld ?_ ?_
         rotate_left
         ·rintro w' ⟨s0, s1⟩
          go_simp
          with_reducible rfl
         rotate_left
         ·simp only [Act.put, List.setIfInBounds_toArray, List.set_cons_zero, List.set_cons_succ, i64_w, i32_w]
          rfl
         refine pure_ (i := 13) (N := some 74) (v := ?_) (a' := ?_) #[true, true, true, true, true, true, true, true, true, true, true, true, true, true, false, true, false, false] rfl rfl (any_of HT_.out (by kernel_rfl)) (fun _ _ _ h => h) (Or.inl ⟨by rfl, ?_⟩) ?_ ?_
         rotate_left
         ·intro w'
          go_simp
          with_reducible rfl
         rotate_left
         ·simp only [Act.put, List.setIfInBounds_toArray, List.set_cons_zero, List.set_cons_succ, i64_w, i32_w]
          rfl
         refine take_ (i := 14) (N := some 75) (v := ?_) (a' := ?_) #[true, true, true, true, true, true, true, true, true, true, true, true, true, true, true, true, false, false] rfl rfl (take_ofW HT_.out HW_.out (by kernel_rfl)) (fun _ _ _ h => h) (Or.inl ⟨by rfl, ?_⟩) hHeld ?_ ?_
         rotate_left
         ·rintro w' ⟨s0, s1⟩
          go_simp
          with_reducible rfl
         rotate_left
         ·simp only [Act.put, List.setIfInBounds_toArray, List.set_cons_zero, List.set_cons_succ, i64_w, i32_w]
          rfl
         refine pure_ (i := 16) (N := some 77) (v := ?_) (a' := ?_) #[true, true, true, true, true, true, true, true, true, true, true, true, true, true, true, true, true, false] rfl rfl (any_of HT_.out (by kernel_rfl)) (fun _ _ _ h => h) (Or.inl ⟨by rfl, ?_⟩) ?_ ?_
         rotate_left
         ·intro w'
          go_simp
          with_reducible rfl
         rotate_left
         ·simp only [Act.put, List.setIfInBounds_toArray, List.set_cons_zero, List.set_cons_succ, i64_w, i32_w]
          rfl
         refine last_ (i := 17) (N := none) #[true, true, true, true, true, true, true, true, true, true, true, true, true, true, true, true, true, true] rfl rfl (one_of HT_.out (by kernel_rfl)) (by decide) (fun K hK => ?_)
         have hcs := HX1.out.t.cell (i * 4 + k) (by rw [HOK.out.1]; have := HIi.out; have := HIk.out; omega)
         have hfs := HX1.out.t.frozen (i * 4 + k)
         refine skip_ (w1 := World.setCell x1 ⟨gt, i * 4 + k, none⟩ (.int .u8 z)) (by rfl) rfl ?_ ?_
         ·go_simp
         have HX2 : Aside0 (TurnT w (World.setCell x1 ⟨gt, i * 4 + k, none⟩ (.int .u8 z)) g gb gr gs gt B blk S ((tA B S T0 i k).set (4 * i + k) z)) := ⟨by have := HX1.out.setT (4 * i + k) z; rw [show 4 * i + k = i * 4 + k by omega] at this ⊢; exact this⟩
         generalize World.setCell x1 ⟨gt, i * 4 + k, none⟩ (.int .u8 z) = x2 at HX2 ⊢
         refine hK.out _ _ ?_
         clear hK K
         refine done_ (done_of HT_.out (by kernel_rfl)) ?_

         go_wp2
         go_roundg (gk - 1)
         case measure => have := HKk.out; have := HIk.out; omega
         case rel =>
          refine ⟨k + 1, ?_, ⟨by have := HKk.out; have := HIk.out; omega⟩, ⟨?_⟩⟩
          ·have := HIk.out
           first
           | rfl
           | (congr 1; unfold wrap64; omega)
           | (congr 1; done)
          ·rw [tA, HX.out]
           exact HX2.out
        ·have hk : k = 4 := by have := HKk.out; omega
         have c2b : decide ((k : Int) < 4) = false := decide_eq_false c2
         clear c2 hok
         subst hk
         obtain ⟨T1, hT1⟩ : ∃ T, tA B S T0 i 4 = T := ⟨_, rfl⟩
         rw [hT1] at HTk HOK
         have HT1 := Aside0.mk hT1
         clear hT1
         go_upto_if 80 with (fail)
         go_cut [11] (fun v11 wc => v11 = .int .i64 (i : Int) ∧ Aside0 (TurnT w wc g gb gr gs gt B blk S (tB B T1 r1 i)))
         case first =>
          by_cases c4 : r1 < 10
          ·have c4b : decide ((r1 : Int) < 10) = true := decide_eq_true (by omega)
           have c4c := eq_true (show (r1 : Int) < 10 by omega)
           have c4d : decide (r1 < 10) = true := decide_eq_true c4
           try rw [c4b]
           try rw [c4d]
           have HC4 := Aside0.mk c4
           clear c4
           obtain ⟨y0, hy0⟩ : ∃ y, T1.getD (i * 4) 0 = y := ⟨_, rfl⟩
           obtain ⟨y1, hy1⟩ : ∃ y, T1.getD (i * 4 + 1) 0 = y := ⟨_, rfl⟩
           obtain ⟨y2, hy2⟩ : ∃ y, T1.getD (i * 4 + 2) 0 = y := ⟨_, rfl⟩
           obtain ⟨y3, hy3⟩ : ∃ y, T1.getD (i * 4 + 3) 0 = y := ⟨_, rfl⟩
           have HY : Aside0 (sub4 T1 (4 * i) = [y0, y1, y2, y3]) := ⟨by unfold sub4; rw [show 4 * i = i * 4 by omega, hy0, hy1, hy2, hy3]⟩
           have q0 := HTk.out.t.cell (i * 4) (by rw [HOK.out.1]; have := HIi.out; omega)
           have q1 := HTk.out.t.cell (i * 4 + 1) (by rw [HOK.out.1]; have := HIi.out; omega)
           have q2 := HTk.out.t.cell (i * 4 + 2) (by rw [HOK.out.1]; have := HIi.out; omega)
           have q3 := HTk.out.t.cell (i * 4 + 3) (by rw [HOK.out.1]; have := HIi.out; omega)
           rw [hy0] at q0
           rw [hy1] at q1
           rw [hy2] at q2
           rw [hy3] at q3
           clear hy0 hy1 hy2 hy3
           go_wp2_with (first
            | (go_at_call 76; refine (let ⟨rr, hc⟩ := HTk.out.i.c; mix_calls g 1 0 rr B [y0, y1, y2, y3] HBB.out.1 rfl _ hc).mono ?_; rintro e w7 ⟨rfl, hw⟩; have HT7 := Aside0.mk (HTk.out.below hw); clear hw)
            | (refine store_part (t := 144) (e := 171) (g := gt) (off := i * 4) (cur := T1.map (Value.int .u8)) (cells := u8s (mixL B [y0, y1, y2, y3] 4)) rfl rfl rfl rfl rfl HT7.out.t (by rw [u8s_size, mixL_len]; exact size144) (by rw [u8s_size, mixL_len, List.length_map, HOK.out.1]; have := HIi.out; omega) (u8s_one _) ?_; intro w8 hb hf; have HT8 : Aside0 (TurnT w w8 g gb gr gs gt B blk S (tB B T1 r1 i)) := ⟨HT7.out.frT hf (by unfold tB; rw [if_pos HC4.out, HY.out, show 4 * i = i * 4 by omega]; unfold u8s at hb; rw [splice_map] at hb; exact hb)⟩; clear hb hf))
           go_meet
           case rel => exact ⟨rfl, HT8⟩
          ·have c4b : decide ((r1 : Int) < 10) = false := decide_eq_false (by omega)
           have c4c := eq_false (show ¬ (r1 : Int) < 10 by omega)
           have c4d : decide (r1 < 10) = false := decide_eq_false c4
           try rw [c4b]
           try rw [c4d]
           have HC4 := Aside0.mk c4
           clear c4
           go_wp2
           go_meet
           case rel => exact ⟨rfl, ⟨by unfold tB; rw [if_neg HC4.out]; exact HTk.out⟩⟩
         case rest =>
          clear HTk
          obtain ⟨hv11, HT9⟩ := hcut
          subst hv11
          obtain ⟨T2, hT2⟩ : ∃ T, tB B T1 r1 i = T := ⟨_, rfl⟩
          have HO2 := Aside0.mk (show T2.length = 16 ∧ AllB T2 by rw [← hT2]; exact tB_ok r1 i HIi.out HOK.out)
          rw [hT2] at HT9
          have HT2 := Aside0.mk hT2
          clear hT2
          obtain ⟨n4, hn4⟩ : ∃ n, 4 * r1 = n := ⟨_, rfl⟩
          have e4 : wrap64 (4 * (r1 : Int)) = (n4 : Int) := by rw [← hn4]; have := HRr.out; unfold wrap64; omega
          obtain ⟨q, hq⟩ : ∃ n, n4 + i = n := ⟨_, rfl⟩
          have e5 : wrap64 ((n4 : Int) + (i : Int)) = (q : Int) := by rw [← hq]; have := HRr.out; have := HIi.out; unfold wrap64; omega
          have q0 := eq_true (Int.natCast_nonneg q)
          have q1 := eq_true (show (q : Int) < 44 by have := HRr.out; have := HIi.out; omega)
          have HQ : Aside0 (4 * r1 + i = q ∧ q < 44) := ⟨by have := HRr.out; have := HIi.out; omega⟩
          clear hn4 hq
          go_wp2
          go_loopg [88] 5 (fun kq v88 w' => ∃ k : Nat, v88 = .int .i64 (k : Int) ∧ Aside0 (kq = 5 - k ∧ k ≤ 4) ∧ Aside0 (TurnT w w' g gb gr gs gt B blk S (tC B T2 r1 i k)))
          case atStart => exact ⟨0, by first | rfl | simp, ⟨by omega⟩, HT9⟩
          case round =>
           obtain ⟨k, rfl, HKk2, HTk⟩ := hrel
           clear HT9
           have HOK3 := Aside0.mk (tC_ok (B := B) r1 i HO2.out k)
           by_cases c2 : (k : Int) < 4
           ·have c2b : decide ((k : Int) < 4) = true := decide_eq_true c2
            have HIk : Aside0 (k < 4) := ⟨by omega⟩
            have hkx := eq_true c2
            have hk0 := eq_true (Int.natCast_nonneg k)
            clear c2
            obtain ⟨xa, hxa⟩ : ∃ x, (tC B T2 r1 i k).getD (4 * i + k) 0 = x := ⟨_, rfl⟩
            obtain ⟨xb, hxb⟩ : ∃ x, B.getD (528 + (4 * q + k)) 0 = x := ⟨_, rfl⟩
            have qa := HTk.out.t.cell (4 * i + k) (by rw [HOK3.out.1]; have := HIi.out; have := HIk.out; omega)
            obtain ⟨rr, hc⟩ := HTk.out.i.c
            have qb := hc.cell (528 + (4 * q + k)) (by rw [HBB.out.1]; have := HQ.out; have := HIk.out; omega)
            rw [hxa, show 4 * i + k = i * 4 + k by omega] at qa
            rw [hxb, show 4 + (528 + (4 * q + k)) = 532 + q * 4 + k by omega] at qb
            have HX : Aside0 ((tC B T2 r1 i k).getD (4 * i + k) 0 = xa ∧ B.getD (528 + (4 * (4 * r1 + i) + k)) 0 = xb) := ⟨hxa, by rw [HQ.out.1]; exact hxb⟩
            clear hxa hxb hc
            go_wp2
            have Q1 : Aside0 (wr.drew.cell? ⟨gt, i * 4 + k, none⟩ = some (.int .u8 xa)) := ⟨qa⟩
            have Q2 : Aside0 (wr.drew.cell? ⟨g, 532 + q * 4 + k, none⟩ = some (.int .u8 xb)) := ⟨qb⟩
            have HX1 : Aside0 (TurnT w wr.drew g gb gr gs gt B blk S (tC B T2 r1 i k)) := ⟨HTk.out.drew⟩
            clear qa qb
            refine start_ (n := 20) (S := fun w' => w'.cell? ⟨gt, i * 4 + k, none⟩ = some (.int .u8 xa) ∧ w'.cell? ⟨g, 532 + q * 4 + k, none⟩ = some (.int .u8 xb)) (ds := [19]) #[false, false, false, false, false, false, false, false, false, false, false, false, false, false, false, false, false, false, false, false] (by kernel_rfl) rfl rfl ⟨Q1.out, Q2.out⟩ (fun hHeld => ?_)
            refine with_tabW A_turn.tab31 A_turn.bits31 (fun HT_ HW_ => ?_)
            generalize wr.drew = x1 at Q1 Q2 HX1 hHeld ⊢
            refine pure_ (i := 0) (N := some 91) (v := ?_) (a' := ?_) #[true, false, false, false, false, false, false, false, false, false, false, false, false, false, false, false, false, false, false, false] rfl rfl (any_of HT_.out (by kernel_rfl)) (fun _ _ _ h => h) (Or.inl ⟨by rfl, ?_⟩) ?_ ?_
            rotate_left
            ·intro w'
             go_simp
             with_reducible rfl
            rotate_left
            ·simp only [Act.put, List.setIfInBounds_toArray, List.set_cons_zero, List.set_cons_succ, i64_w, i32_w]
             rfl
            refine pure_ (i := 1) (N := some 92) (v := ?_) (a' := ?_) #[true, true, false, false, false, false, false, false, false, false, false, false, false, false, false, false, false, false, false, false] rfl rfl (any_of HT_.out (by kernel_rfl)) (fun _ _ _ h => h) (Or.inl ⟨by rfl, ?_⟩) ?_ ?_
            rotate_left
            ·intro w'
             go_simp
             with_reducible rfl
            rotate_left
            ·simp only [Act.put, List.setIfInBounds_toArray, List.set_cons_zero, List.set_cons_succ, i64_w, i32_w]
             rfl
            refine pure_ (i := 2) (N := some 93) (v := ?_) (a' := ?_) #[true, true, true, false, false, false, false, false, false, false, false, false, false, false, false, false, false, false, false, false] rfl rfl (any_of HT_.out (by kernel_rfl)) (fun _ _ _ h => h) (Or.inl ⟨by rfl, ?_⟩) ?_ ?_
            rotate_left
            ·intro w'
             go_simp
             with_reducible rfl
            rotate_left
            ·simp only [Act.put, List.setIfInBounds_toArray, List.set_cons_zero, List.set_cons_succ, i64_w, i32_w]
             rfl
            refine pure_ (i := 3) (N := some 94) (v := ?_) (a' := ?_) #[true, true, true, true, false, false, false, false, false, false, false, false, false, false, false, false, false, false, false, false] rfl rfl (any_of HT_.out (by kernel_rfl)) (fun _ _ _ h => h) (Or.inl ⟨by rfl, ?_⟩) ?_ ?_
            rotate_left
            ·intro w'
             go_simp
             with_reducible rfl
            rotate_left
            ·simp only [Act.put, List.setIfInBounds_toArray, List.set_cons_zero, List.set_cons_succ, i64_w, i32_w]
             rfl
            refine pure_ (i := 5) (N := some 96) (v := ?_) (a' := ?_) #[true, true, true, true, false, true, false, false, false, false, false, false, false, false, false, false, false, false, false, false] rfl rfl (any_of HT_.out (by kernel_rfl)) (fun _ _ _ h => h) (Or.inl ⟨by rfl, ?_⟩) ?_ ?_
            rotate_left
            ·intro w'
             go_simp
             with_reducible rfl
            rotate_left
            ·simp only [Act.put, List.setIfInBounds_toArray, List.set_cons_zero, List.set_cons_succ, i64_w, i32_w]
             rfl
            refine pure_ (i := 6) (N := some 97) (v := ?_) (a' := ?_) #[true, true, true, true, false, true, true, false, false, false, false, false, false, false, false, false, false, false, false, false] rfl rfl (any_of HT_.out (by kernel_rfl)) (fun _ _ _ h => h) (Or.inl ⟨by rfl, ?_⟩) ?_ ?_
            rotate_left
            ·intro w'
             go_simp
             with_reducible rfl
            rotate_left
            ·simp only [Act.put, List.setIfInBounds_toArray, List.set_cons_zero, List.set_cons_succ, i64_w, i32_w]
             rfl
            refine pure_ (i := 7) (N := some 98) (v := ?_) (a' := ?_) #[true, true, true, true, false, true, true, true, false, false, false, false, false, false, false, false, false, false, false, false] rfl rfl (any_of HT_.out (by kernel_rfl)) (fun _ _ _ h => h) (Or.inl ⟨by rfl, ?_⟩) ?_ ?_
            rotate_left
            ·intro w'
             go_simp
             with_reducible rfl
            rotate_left
            ·simp only [Act.put, List.setIfInBounds_toArray, List.set_cons_zero, List.set_cons_succ, i64_w, i32_w]
             rfl
            refine pure_ (i := 8) (N := some 99) (v := ?_) (a' := ?_) #[true, true, true, true, false, true, true, true, true, false, false, false, false, false, false, false, false, false, false, false] rfl rfl (any_of HT_.out (by kernel_rfl)) (fun _ _ _ h => h) (Or.inl ⟨by rfl, ?_⟩) ?_ ?_
            rotate_left
            ·intro w'
             go_simp
             with_reducible rfl
            rotate_left
            ·simp only [Act.put, List.setIfInBounds_toArray, List.set_cons_zero, List.set_cons_succ, i64_w, i32_w]
             rfl
            refine pure_ (i := 9) (N := some 100) (v := ?_) (a' := ?_) #[true, true, true, true, false, true, true, true, true, true, false, false, false, false, false, false, false, false, false, false] rfl rfl (any_of HT_.out (by kernel_rfl)) (fun _ _ _ h => h) (Or.inl ⟨by rfl, ?_⟩) ?_ ?_
            rotate_left
            ·intro w'
             go_simp
             with_reducible rfl
            rotate_left
            ·simp only [Act.put, List.setIfInBounds_toArray, List.set_cons_zero, List.set_cons_succ, i64_w, i32_w]
             rfl
            refine pure_ (i := 10) (N := some 101) (v := ?_) (a' := ?_) #[true, true, true, true, false, true, true, true, true, true, true, false, false, false, false, false, false, false, false, false] rfl rfl (any_of HT_.out (by kernel_rfl)) (fun _ _ _ h => h) (Or.inl ⟨by rfl, ?_⟩) ?_ ?_
            rotate_left
            ·intro w'
             go_simp
             with_reducible rfl
            rotate_left
            ·simp only [Act.put, List.setIfInBounds_toArray, List.set_cons_zero, List.set_cons_succ, i64_w, i32_w]
             rfl
            refine pure_ (i := 11) (N := some 102) (v := ?_) (a' := ?_) #[true, true, true, true, false, true, true, true, true, true, true, true, false, false, false, false, false, false, false, false] rfl rfl (any_of HT_.out (by kernel_rfl)) (fun _ _ _ h => h) (Or.inl ⟨by rfl, ?_⟩) ?_ ?_
            rotate_left
            ·intro w'
             go_simp
             with_reducible rfl
            rotate_left
            ·simp only [Act.put, List.setIfInBounds_toArray, List.set_cons_zero, List.set_cons_succ, i64_w, i32_w]
             rfl
            refine pure_ (i := 12) (N := some 103) (v := ?_) (a' := ?_) #[true, true, true, true, false, true, true, true, true, true, true, true, true, false, false, false, false, false, false, false] rfl rfl (any_of HT_.out (by kernel_rfl)) (fun _ _ _ h => h) (Or.inl ⟨by rfl, ?_⟩) ?_ ?_
            rotate_left
            ·intro w'
             go_simp
             with_reducible rfl
            rotate_left
            ·simp only [Act.put, List.setIfInBounds_toArray, List.set_cons_zero, List.set_cons_succ, i64_w, i32_w]
             rfl
            refine pure_ (i := 13) (N := some 104) (v := ?_) (a' := ?_) #[true, true, true, true, false, true, true, true, true, true, true, true, true, true, false, false, false, false, false, false] rfl rfl (any_of HT_.out (by kernel_rfl)) (fun _ _ _ h => h) (Or.inl ⟨by rfl, ?_⟩) ?_ ?_
            rotate_left
            ·intro w'
             go_simp
             with_reducible rfl
            rotate_left
            ·simp only [Act.put, List.setIfInBounds_toArray, List.set_cons_zero, List.set_cons_succ, i64_w, i32_w]
             rfl
            refine pure_ (i := 14) (N := some 105) (v := ?_) (a' := ?_) #[true, true, true, true, false, true, true, true, true, true, true, true, true, true, true, false, false, false, false, false] rfl rfl (any_of HT_.out (by kernel_rfl)) (fun _ _ _ h => h) (Or.inl ⟨by rfl, ?_⟩) ?_ ?_
            rotate_left
            ·intro w'
             go_simp
             with_reducible rfl
            rotate_left
            ·simp only [Act.put, List.setIfInBounds_toArray, List.set_cons_zero, List.set_cons_succ, i64_w, i32_w]
             rfl
            refine pure_ (i := 17) (N := some 108) (v := ?_) (a' := ?_) #[true, true, true, true, false, true, true, true, true, true, true, true, true, true, true, false, false, true, false, false] rfl rfl (any_of HT_.out (by kernel_rfl)) (fun _ _ _ h => h) (Or.inl ⟨by rfl, ?_⟩) ?_ ?_
            rotate_left
            ·intro w'
             go_simp
             with_reducible rfl
            rotate_left
            ·simp only [Act.put, List.setIfInBounds_toArray, List.set_cons_zero, List.set_cons_succ, i64_w, i32_w]
             rfl
            refine take_ (i := 4) (N := some 95) (v := ?_) (a' := ?_) #[true, true, true, true, true, true, true, true, true, true, true, true, true, true, true, false, false, true, false, false] rfl rfl (take_ofW HT_.out HW_.out (by kernel_rfl)) (fun _ _ _ h => h) (Or.inl ⟨by rfl, ?_⟩) hHeld ?_ ?_
            rotate_left
            ·rintro w' ⟨s0, s1⟩
             go_simp
             with_reducible rfl
            rotate_left
            ·simp only [Act.put, List.setIfInBounds_toArray, List.set_cons_zero, List.set_cons_succ, i64_w, i32_w]
             rfl
            refine take_ (i := 15) (N := some 106) (v := ?_) (a' := ?_) #[true, true, true, true, true, true, true, true, true, true, true, true, true, true, true, true, false, true, false, false] rfl rfl (take_ofW HT_.out HW_.out (by kernel_rfl)) (fun _ _ _ h => h) (Or.inl ⟨by rfl, ?_⟩) hHeld ?_ ?_
            rotate_left
            ·rintro w' ⟨s0, s1⟩
             go_simp
             with_reducible rfl
            rotate_left
            ·simp only [Act.put, List.setIfInBounds_toArray, List.set_cons_zero, List.set_cons_succ, i64_w, i32_w]
             rfl
            refine pure_ (i := 16) (N := some 107) (v := ?_) (a' := ?_) #[true, true, true, true, true, true, true, true, true, true, true, true, true, true, true, true, true, true, false, false] rfl rfl (any_of HT_.out (by kernel_rfl)) (fun _ _ _ h => h) (Or.inl ⟨by rfl, ?_⟩) ?_ ?_
            rotate_left
            ·intro w'
             go_simp
             with_reducible rfl
            rotate_left
            ·simp only [Act.put, List.setIfInBounds_toArray, List.set_cons_zero, List.set_cons_succ, i64_w, i32_w]
             rfl
            refine pure_ (i := 18) (N := some 109) (v := ?_) (a' := ?_) #[true, true, true, true, true, true, true, true, true, true, true, true, true, true, true, true, true, true, true, false] rfl rfl (any_of HT_.out (by kernel_rfl)) (fun _ _ _ h => h) (Or.inl ⟨by rfl, ?_⟩) ?_ ?_
            rotate_left
            ·intro w'
             go_simp
             with_reducible rfl
            rotate_left
            ·simp only [Act.put, List.setIfInBounds_toArray, List.set_cons_zero, List.set_cons_succ, i64_w, i32_w]
             rfl
            refine last_ (i := 19) (N := none) #[true, true, true, true, true, true, true, true, true, true, true, true, true, true, true, true, true, true, true, true] rfl rfl (one_of HT_.out (by kernel_rfl)) (by decide) (fun K hK => ?_)
            have hcs := HX1.out.t.cell (i * 4 + k) (by rw [HOK3.out.1]; have := HIi.out; have := HIk.out; omega)
            have hfs := HX1.out.t.frozen (i * 4 + k)
            refine skip_ (w1 := World.setCell x1 ⟨gt, i * 4 + k, none⟩ (.int .u8 (x8 xa xb))) (by rfl) rfl ?_ ?_
            ·go_simp
            have HX2 : Aside0 (TurnT w (World.setCell x1 ⟨gt, i * 4 + k, none⟩ (.int .u8 (x8 xa xb))) g gb gr gs gt B blk S ((tC B T2 r1 i k).set (4 * i + k) (x8 xa xb))) := ⟨by have := HX1.out.setT (4 * i + k) (x8 xa xb); rw [show 4 * i + k = i * 4 + k by omega] at this ⊢; exact this⟩
            generalize World.setCell x1 ⟨gt, i * 4 + k, none⟩ (.int .u8 (x8 xa xb)) = x2 at HX2 ⊢
            refine hK.out _ _ ?_
            clear hK K
            refine done_ (done_of HT_.out (by kernel_rfl)) ?_

            go_wp2
            go_roundg (gk - 1)
            case measure => have := HKk2.out; have := HIk.out; omega
            case rel =>
             refine ⟨k + 1, ?_, ⟨by have := HKk2.out; have := HIk.out; omega⟩, ⟨?_⟩⟩
             ·have := HIk.out
              first
              | rfl
              | (congr 1; unfold wrap64; omega)
              | (congr 1; done)
             ·rw [tC, HX.out.1, HX.out.2]
              exact HX2.out
           ·have hk : k = 4 := by have := HKk2.out; omega
            have c2b : decide ((k : Int) < 4) = false := decide_eq_false c2
            clear c2
            subst hk
            go_wp2
            go_roundg (4 - i)
            case measure => have := HKi.out; have := HIi.out; omega
            case rel =>
             refine ⟨i + 1, ?_, ⟨by have := HKi.out; have := HIi.out; omega⟩, ⟨?_⟩⟩
             ·have := HIi.out
              first
              | rfl
              | (congr 1; unfold wrap64; omega)
              | (congr 1; done)
             ·rw [tR_succ, HTT.out, HT1.out, HT2.out]
              exact HTk.out
      ·have hi : i = 4 := by have := HKi.out; omega
       have c1b : decide ((i : Int) < 4) = false := decide_eq_false c1
       clear c1
       subst hi
       go_wp2_with (first
        | ((with_reducible refine gate_dst (N := 112) rfl ?_); refine wpList_load_row rfl 171 (.tmp 10) rfl gt rfl 171 (u8s T0) (0, 0) _ HTi.out.t Tryz.underlying171 rfl (by rw [u8s_size, HT0.out.1]; exact size171) ?_)
        | (refine store_row (t := 171) (e := 171) (g := gs) (cells := u8s T0) rfl rfl rfl rfl rfl HTi.out.i.s (by rw [u8s_size, HT0.out.1]; exact size171) (by rw [u8s_size, u8s_size, HT0.out.1, HSS.out.1]) (u8s_one _) ?_; intro w8 hb hf; have HI8 : Aside0 (TurnI w w8 g gb gr gs B blk T0) := ⟨HTi.out.i.frS hf hb⟩; clear hb hf))
       go_roundg (10 - r)
       case measure => have := HKr.out; have := HR1.out; have := HRr.out; omega
       case rel =>
        refine ⟨r + 1, ?_, ⟨by have := HKr.out; have := HR1.out; have := HRr.out; omega⟩, ⟨?_⟩⟩
        ·have := HRr.out
         have := HR1.out
         first
         | (congr 1; unfold wrap64; omega)
         | (congr 1; omega)
        ·rw [sN_succ, HSr.out, HR1.out, HTT.out]
         exact HI8.out
    ·have hr : r = 10 := by have := HKr.out; have := HR1.out; omega
     have c3b : decide ((r1 : Int) ≤ 10) = false := decide_eq_false c3
     clear c3
     subst hr
     have HTV : Aside0 (turnV B blk = oF S 4) := ⟨by rw [turnV_eq, HSr.out]⟩
     go_wp2_with (first
      | ((with_reducible refine gate_dst (N := 14) rfl ?_); refine alloc_v rfl rfl info71 ?hr ?_; (case hr => rfl); intro go hg w6 hb hw; have HO : Aside0 (TurnI w w6 g gb gr gs B blk S ∧ gs < go ∧ ArrB w6 go 71 (oF S 0)) := ⟨HIr.out.below hw, by have := blk_lt HIr.out.s; omega, by rw [oF]; exact hb⟩; clear hb hw hg))
     go_loopg [113] 5 (fun kq v113 w' => ∃ i : Nat, v113 = .int .i64 (i : Int) ∧ Aside0 (kq = 5 - i ∧ i ≤ 4) ∧ Aside0 (TurnI w w' g gb gr gs B blk S ∧ gs < go ∧ ArrB w' go 71 (oF S i)))
     case atStart => exact ⟨0, by first | rfl | simp, ⟨by omega⟩, HO⟩
     case round =>
      obtain ⟨i, rfl, HKi, HOi⟩ := hrel
      clear HO HIr
      by_cases c1 : (i : Int) < 4
      ·have c1b : decide ((i : Int) < 4) = true := decide_eq_true c1
       have HIi : Aside0 (i < 4) := ⟨by omega⟩
       have hix := eq_true c1
       have hi0 := eq_true (Int.natCast_nonneg i)
       obtain ⟨n4, hn4⟩ : ∃ n, 4 * i = n := ⟨_, rfl⟩
       have e4 : wrap64 (4 * (i : Int)) = (n4 : Int) := by rw [← hn4]; unfold wrap64; omega
       have n40 := eq_true (Int.natCast_nonneg n4)
       have n41 := eq_true (show (n4 : Int) ≤ 16 by omega)
       have hn16 : (16 = n4) = False := eq_false (by omega)
       have HN := Aside0.mk hn4
       clear c1 hn4
       go_wp2
       have HX1 : Aside0 (TurnI w wr.drew g gb gr gs B blk S ∧ gs < go ∧ ArrB wr.drew go 71 (oF S i)) := ⟨HOi.out.1.drew, HOi.out.2.1, HOi.out.2.2⟩
       refine start_ (n := 7) (S := fun w' => True) (ds := []) #[false, false, false, false, false, false, false] (by kernel_rfl) rfl rfl trivial (fun hHeld => ?_)
       refine with_tabW A_turn.tab39 A_turn.bits39 (fun HT_ HW_ => ?_)
       generalize wr.drew = x1 at HX1 hHeld ⊢
       refine pure_ (i := 0) (N := some 116) (v := ?_) (a' := ?_) #[true, false, false, false, false, false, false] rfl rfl (any_of HT_.out (by kernel_rfl)) (fun _ _ _ h => h) (Or.inl ⟨by rfl, ?_⟩) ?_ ?_
       rotate_left
       ·intro w'
        go_simp
        with_reducible rfl
       rotate_left
       ·simp only [Act.put, List.setIfInBounds_toArray, List.set_cons_zero, List.set_cons_succ, i64_w, i32_w]
        rfl
       refine pure_ (i := 1) (N := some 117) (v := ?_) (a' := ?_) #[true, true, false, false, false, false, false] rfl rfl (any_of HT_.out (by kernel_rfl)) (fun _ _ _ h => h) (Or.inl ⟨by rfl, ?_⟩) ?_ ?_
       rotate_left
       ·intro w'
        go_simp
        with_reducible rfl
       rotate_left
       ·simp only [Act.put, List.setIfInBounds_toArray, List.set_cons_zero, List.set_cons_succ, i64_w, i32_w]
        rfl
       refine pure_ (i := 2) (N := some 118) (v := ?_) (a' := ?_) #[true, true, true, false, false, false, false] rfl rfl (any_of HT_.out (by kernel_rfl)) (fun _ _ _ h => h) (Or.inl ⟨by rfl, ?_⟩) ?_ ?_
       rotate_left
       ·intro w'
        go_simp
        with_reducible rfl
       rotate_left
       ·simp only [Act.put, List.setIfInBounds_toArray, List.set_cons_zero, List.set_cons_succ, i64_w, i32_w]
        rfl
       refine pure_ (i := 3) (N := some 119) (v := ?_) (a' := ?_) #[true, true, true, true, false, false, false] rfl rfl (any_of HT_.out (by kernel_rfl)) (fun _ _ _ h => h) (Or.inl ⟨by rfl, ?_⟩) ?_ ?_
       rotate_left
       ·intro w'
        go_simp
        with_reducible rfl
       rotate_left
       ·simp only [Act.put, List.setIfInBounds_toArray, List.set_cons_zero, List.set_cons_succ, i64_w, i32_w]
        rfl
       refine pure_ (i := 4) (N := some 120) (v := ?_) (a' := ?_) #[true, true, true, true, true, false, false] rfl rfl (any_of HT_.out (by kernel_rfl)) (fun _ _ _ h => h) (Or.inl ⟨by rfl, ?_⟩) ?_ ?_
       rotate_left
       ·intro w'
        go_simp
        with_reducible rfl
       rotate_left
       ·simp only [Act.put, List.setIfInBounds_toArray, List.set_cons_zero, List.set_cons_succ, i64_w, i32_w]
        rfl
       refine pure_ (i := 5) (N := some 121) (v := ?_) (a' := ?_) #[true, true, true, true, true, true, false] rfl rfl (any_of HT_.out (by kernel_rfl)) (fun _ _ _ h => h) (Or.inl ⟨by rfl, ?_⟩) ?_ ?_
       rotate_left
       ·intro w'
        go_simp
        with_reducible rfl
       rotate_left
       ·simp only [Act.put, List.setIfInBounds_toArray, List.set_cons_zero, List.set_cons_succ, i64_w, i32_w]
        rfl
       refine one_ (i := 6) (N := some 122) #[true, true, true, true, true, true, true] rfl rfl (one_of HT_.out (by kernel_rfl)) (by decide) (fun K hK => ?_)
       refine step_copy_fr rfl (.tmp 118) (.tmp 121) 22 22 rfl 5 Tryz.underlying22 size5 (16 - n4) (16 - n4) 4 4 go n4 ⟨gs, i * 4, none⟩ (by rfl) (by rfl) ((oF S i).map (Value.int .u8)) 71 HX1.out.2.2 ((sub4 S n4).map (Value.int .u8)) (by have := HIi.out; have := HN.out; show 4 = min 4 (16 - n4); omega) (by intro j v hv; rw [Addr.add_mid]; have h := ArrB.range4 HX1.out.1.s (i * 4) (by rw [HSS.out.1]; have := HIi.out; omega) j v; rw [show i * 4 = n4 by have := HN.out; omega] at h ⊢; exact h hv) (by rw [List.length_map, List.length_map, oF_len S i (by have := HIi.out; omega)]; show n4 + 4 ≤ 16; have := HIi.out; have := HN.out; omega) (by intro v hv; simp [sub4] at hv; rcases hv with rfl | rfl | rfl | rfl <;> rfl) ?_
       intro x2 hb hf
       have HX2 : Aside0 (TurnI w x2 g gb gr gs B blk S ∧ gs < go ∧ ArrB x2 go 71 (splice (oF S i) n4 (sub4 S n4))) := ⟨HX1.out.1.fr HX1.out.2.1 hf, HX1.out.2.1, by rw [splice_map] at hb; exact hb⟩
       clear hb hf
       refine hK.out _ _ trivial (fun hHeld => ?_)
       clear hK K
       refine norm_ (a' := ?_) ?_ ?_
       rotate_left
       ·show Act.put _ (some 122) _ = _
        simp only [Act.put, List.setIfInBounds_toArray, List.set_cons_zero, List.set_cons_succ, i64_w, i32_w]
        rfl
       refine done_ (done_of HT_.out (by kernel_rfl)) ?_

       go_wp2
       go_roundg (gk - 1)
       case measure => have := HKi.out; have := HIi.out; omega
       case rel =>
        refine ⟨i + 1, ?_, ⟨by have := HKi.out; have := HIi.out; omega⟩, ⟨HX2.out.1, HX2.out.2.1, by rw [oF, HN.out]; exact HX2.out.2.2⟩⟩
        have := HIi.out
        first
        | rfl
        | (congr 1; unfold wrap64; omega)
        | (congr 1; done)
      ·have hi : i = 4 := by have := HKi.out; omega
       have c1b : decide ((i : Int) < 4) = false := decide_eq_false c1
       clear c1
       subst hi
       have HOL : Aside0 ((oF S 4).length = 16) := ⟨oF_len S 4 (Nat.le_refl _)⟩
       go_wp2_with (first
        | ((with_reducible refine gate_dst (N := 124) rfl ?_); refine wpList_load_row rfl 71 (.tmp 14) rfl go rfl 71 (u8s (oF S 4)) (0, 0) _ HOi.out.2.2 Tryz.underlying71 rfl (by rw [u8s_size, HOL.out]; exact size71) ?_)
        | (refine store_row (t := 71) (e := 71) (g := gr) (cells := u8s (oF S 4)) rfl rfl rfl rfl rfl HOi.out.1.r (by rw [u8s_size, HOL.out]; exact size71) (by rw [u8s_size, u8s_size, HOL.out]; rfl) (u8s_one _) ?_; intro w8 hb hf; have HZ : Aside0 (ArrB w8 gr 71 (oF S 4)) := ⟨hb⟩; have HZC : Aside0 ((∃ r, CipAt w8 g 1 0 B r) ∧ Fr w w8 (fun k => k = g)) := ⟨let ⟨r, hr⟩ := HOi.out.1.c; ⟨r, hr.fr hf (by have := HOi.out.1.o; show ¬ g = gr; omega)⟩, HOi.out.1.f.trans hf (fun k e => .inr (by have := HOi.out.1.o; omega))⟩; clear hb hf))
       refine bodyPost_ret (results_ct rfl _ _ gr 71 (u8s (oF S 4)) (0, 0) _ rfl HZ.out Tryz.underlying71 rfl (by rw [u8s_size, HOL.out]; exact size71)) rfl ?_
       exact ⟨by rw [HTV.out]; rfl, HZC.out.1, HZC.out.2⟩
end Go.Proofs.YteadamkkbgnpeaaGreat.A
end OfA7
section OfA8
set_option linter.unusedVariables false
set_option linter.unusedSimpArgs false
namespace Go.Proofs.YteadamkkbgnpeaaGreat.A
open Go.RowKit YteadamkkbgnpeaaGreatW.PrintLast B S QTC YteadamkkbgnpeaaGreatW.PrintWords YteadamkkbgnpeaaGreatW.PrintMore
/-- A whole row is loaded in a region that draws. -/
theorem yields_row {P : Program} {ops : Array Oper} {S : World → Prop} {o : Oper} {a : Act} (hw : Region.wanted o (yielded ops a.tmps) = true) (ty : TypeId) (x : Operand) (ho : o.op = .load ty x)
  (g : Nat) (hx : a.eval x = .pointer (some ⟨g, 0, none⟩)) (t : TypeId) (cs : Array Value) (d : TypeDesc) (hS : ∀ w, S w → w.heap[g]? = some (.cells cs t (0, 0)))
  (hu : P.underlying ty = some d) (hd : (match d with | .struct _ | .array _ _ => true | _ => false) = true) (hi : (P.info? ty).map (·.size) = some cs.size) : YieldsIf P ops S o (.agg cs) a :=
 .inl ⟨hw, fun w hw' => by
  unfold execOp
  simp only [ho, hx, Instr.loadAt, Instr.sureAddr, Sem.run_bind, Sem.run_pure, Result.andThen_ok, run_loadVar_row w g t ty cs (0, 0) d (hS w hw') hu hd hi]⟩
/-- A stream's block: its cipher. -/
def StrAt (w : World) (gs gc : Nat) : Prop := w.heap[gs]? = some (.cells #[.pointer (some ⟨gc, 0, none⟩)] 118 (0, 0))
theorem StrAt.cell {w : World} {gs gc : Nat} (h : StrAt w gs gc) : w.cell? ⟨gs, 0, none⟩ = some (.pointer (some ⟨gc, 0, none⟩)) := by rw [blk_cell h 0]; rfl
theorem StrAt.below {w w1 : World} {gs gc : Nat} (h : StrAt w gs gc) (k : Below w.heap.size w w1) : StrAt w1 gs gc := (k.block gs (blk_lt h)).trans h
theorem StrAt.ne {w : World} {gs gc : Nat} {key : List Int} (h : StrAt w gs gc) (k : CipK w gc key) : gs ≠ gc := by
 rintro rfl
 obtain ⟨r, k | k⟩ := k <;> · unfold StrAt at h; unfold CipAt at k; rw [h] at k; injection k with k; injection k with _ k; cases k
theorem StrAt.fr {w w1 : World} {gs gc : Nat} {S : Nat → Prop} (h : StrAt w gs gc) (k : Fr w w1 S) (hn : ¬ S gs) : StrAt w1 gs gc := k.blk h hn
set_option maxHeartbeats 4000000 in
set_option maxRecDepth 100000 in
theorem cipher_calls (gs gc : Nat) (w : World) (hs : StrAt w gs gc) :
  Calls Tryz.prog 52 #[.pointer (some ⟨gs, 0, none⟩)] w fun e w' => e = .returned (.pointer (some ⟨gc, 0, none⟩)) ∧ w' = w := by
 have hc := hs.cell
 go_enter Tryz.func52, Tryz.ntmps52
 go_wp2
 go_ret
 exact ⟨rfl, rfl⟩
/-- A block of a number's stream, not yet turned. -/
def ctrN (n i : Int) : Nat → List Int
 | 0 => List.replicate 16 0
 | k + 1 => ((ctrN n i k).set k (n / 2 ^ (8 * (7 - k)) % 256)).set (8 + k) (IntKind.u64.wrap i / 2 ^ (8 * (7 - k)) % 256)
theorem ctrN_len (n i : Int) : ∀ k, (ctrN n i k).length = 16
 | 0 => by rw [ctrN, List.length_replicate]
 | k + 1 => by rw [ctrN, List.length_set, List.length_set]; exact ctrN_len n i k
def blkV (key : List Int) (n i : Int) : List Int := turnV (cb key) (ctrN n i 8)
theorem blkV_ok {key : List Int} (h : key.length = 16 ∧ AllB key) (n i : Int) : (blkV key n i).length = 16 ∧ AllB (blkV key n i) := turnV_ok _ (cb_ok h).2
def strN (key : List Int) (n : Int) : Nat → List Int
 | 0 => []
 | i + 1 => strN key n i ++ blkV key n (i : Int)
theorem strN_ok {key : List Int} (h : key.length = 16 ∧ AllB key) (n : Int) : ∀ i, (strN key n i).length = 16 * i ∧ AllB (strN key n i)
 | 0 => ⟨rfl, fun x hx => by cases hx⟩
 | i + 1 => ⟨by rw [strN, List.length_append, (strN_ok h n i).1, (blkV_ok h n i).1]; omega, (strN_ok h n i).2.app (blkV_ok h n i).2⟩
/-- A number's stream, its first bytes. -/
def strV (key : List Int) (n : Int) (len : Nat) : List Int := (strN key n ((len + 15) / 16)).take len
theorem strV_ok {key : List Int} (h : key.length = 16 ∧ AllB key) (n : Int) (len : Nat) : (strV key n len).length = len ∧ AllB (strV key n len) :=
 ⟨by rw [strV, List.length_take, (strN_ok h n _).1]; omega, (strN_ok h n _).2.take _⟩
/-- What Hide makes of bytes. -/
def hideV (key : List Int) (n : Int) (l : List Int) : List Int := (List.range l.length).map fun j => x8 ((strV key n l.length).getD j 0) (l.getD j 0)
theorem hideV_len (key : List Int) (n : Int) (l : List Int) : (hideV key n l).length = l.length := by simp [hideV]
theorem hideV_b (key : List Int) (n : Int) (l : List Int) : AllB (hideV key n l) := by
 intro x hx
 simp only [hideV, List.mem_map] at hx
 obtain ⟨j, _, rfl⟩ := hx
 exact x8_b _ _
theorem x8_nat (a b : Nat) (ha : a < 256) (hb : b < 256) : x8 (a : Int) (b : Int) = ((a ^^^ b : Nat) : Int) := by
 unfold x8 Go.bits
 rw [IntKind.wrap_u8]
 have h := Nat.xor_lt_two_pow (n := 8) ha hb
 have e8 : IntKind.u8.bits = 8 := rfl
 simp [e8, Nat.mod_eq_of_lt ha, Nat.mod_eq_of_lt hb]
 omega
theorem x8_back (a b : Int) (ha : 0 ≤ a ∧ a < 256) (hb : 0 ≤ b ∧ b < 256) : x8 a (x8 a b) = b := by
 obtain ⟨m, rfl⟩ := Int.eq_ofNat_of_zero_le ha.1
 obtain ⟨n, rfl⟩ := Int.eq_ofNat_of_zero_le hb.1
 rw [x8_nat m n (by omega) (by omega), x8_nat m (m ^^^ n) (by omega) (Nat.xor_lt_two_pow (n := 8) (by omega) (by omega)), ← Nat.xor_assoc, Nat.xor_self, Nat.zero_xor]
/-- What is hidden twice is as it was. -/
theorem hide_back {key : List Int} (h : key.length = 16 ∧ AllB key) (n : Int) (l : List Int) (hl : AllB l) : hideV key n (hideV key n l) = l := by
 apply List.ext_getElem?
 intro j
 by_cases hj : j < l.length
 ·have e1 : (hideV key n l).getD j 0 = x8 ((strV key n l.length).getD j 0) (l.getD j 0) := by
   rw [List.getD_eq_getElem?_getD]
   simp [hideV, hj]
  have e2 : (hideV key n (hideV key n l))[j]? = some (x8 ((strV key n l.length).getD j 0) ((hideV key n l).getD j 0)) := by
   rw [hideV, hideV_len]
   simp [hj]
  rw [e2, e1, x8_back _ _ ((strV_ok h n l.length).2.getD j) (hl.getD j), List.getElem?_eq_getElem hj, List.getD_eq_getElem?_getD, List.getElem?_eq_getElem hj]
  rfl
 ·rw [List.getElem?_eq_none (by rw [hideV_len, hideV_len]; omega), List.getElem?_eq_none (by omega)]
theorem blkV_eq (key : List Int) (n i : Int) : blkV key n i = turnV (cb key) (ctrN n i 8) := rfl
theorem strN_zero (key : List Int) (n : Int) : strN key n 0 = [] := rfl
theorem strN_succ (key : List Int) (n : Int) (i : Nat) : strN key n (i + 1) = strN key n i ++ blkV key n (i : Int) := rfl
theorem hideV_eq (key : List Int) (n : Int) (l : List Int) : hideV key n l = (List.range l.length).map fun j => x8 ((strV key n l.length).getD j 0) (l.getD j 0) := rfl
attribute [irreducible] blkV strN hideV
end Go.Proofs.YteadamkkbgnpeaaGreat.A
end OfA8
section OfA9
set_option linter.unusedVariables false
set_option linter.unusedSimpArgs false
namespace Go.Proofs.YteadamkkbgnpeaaGreat.A
open Go.RowKit YteadamkkbgnpeaaGreatW.PrintLast B S QTC YteadamkkbgnpeaaGreatW.PrintWords YteadamkkbgnpeaaGreatW.PrintMore
/-- block's variables: the result, the block. -/
structure BlkI (w w' : World) (gs gc gr gb : Nat) (key X : List Int) : Prop where
 o : gs < w.heap.size ∧ gc < w.heap.size ∧ w.heap.size ≤ gr ∧ gr < gb
 s : StrAt w' gs gc
 c : CipK w' gc key
 r : ArrB w' gr 71 (List.replicate 16 0)
 b : ArrB w' gb 71 X
 f : Below w.heap.size w w'
theorem CipK.below {w w1 : World} {g : Nat} {key : List Int} (h : CipK w g key) (k : Below w.heap.size w w1) : CipK w1 g key := let ⟨r, hr⟩ := h; ⟨r, hr.imp (fun h => h.below k) (fun h => h.below k)⟩
theorem CipK.fr {w w1 : World} {g : Nat} {key : List Int} {S : Nat → Prop} (h : CipK w g key) (k : Fr w w1 S) (hn : ¬ S g) : CipK w1 g key := let ⟨r, hr⟩ := h; ⟨r, hr.imp (fun h => h.fr k hn) (fun h => h.fr k hn)⟩
theorem CipK.lt {w : World} {g : Nat} {key : List Int} (h : CipK w g key) : g < w.heap.size := by obtain ⟨r, h | h⟩ := h <;> exact blk_lt h
section
variable {w w1 w2 : World} {gs gc gr gb : Nat} {key X : List Int}
theorem BlkI.below (h : BlkI w w1 gs gc gr gb key X) (k : Below w1.heap.size w1 w2) : BlkI w w2 gs gc gr gb key X := ⟨h.o, h.s.below k, h.c.below k, h.r.below k, h.b.below k, below_step h.f k⟩
theorem BlkI.drew (h : BlkI w w1 gs gc gr gb key X) : BlkI w w1.drew gs gc gr gb key X := h.below (below_drew (Below.refl _ _))
theorem BlkI.set (h : BlkI w w1 gs gc gr gb key X) (i : Nat) (x : Int) : BlkI w (w1.setCell ⟨gb, i, none⟩ (.int .u8 x)) gs gc gr gb key (X.set i x) := by
 have := h.o
 have hf := (Fr.refl w1 (fun k => k = gb)).setCell (p := ⟨gb, i, none⟩) (.inl rfl) (.int .u8 x)
 exact ⟨h.o, h.s.fr hf (by show ¬ gs = gb; omega), h.c.fr hf (by show ¬ gc = gb; omega), h.r.fr hf (by show ¬ gr = gb; omega), h.b.set i x, h.f.setCell (p := ⟨gb, i, none⟩) (by show w.heap.size ≤ gb; omega) _⟩
end
theorem splice_all (l m : List Int) (h : l.length = m.length) : splice (l.map (Value.int .u8)) 0 (u8s m).toList = m.map (Value.int .u8) := by
 unfold splice u8s
 simp [h]
theorem turn_blk (gc : Nat) (key : List Int) (hk : key.length = 16 ∧ AllB key) (n i : Int) (w : World) (hs : CipK w gc key) :
  Calls Tryz.prog 69 #[.pointer (some ⟨gc, 0, none⟩), .agg (u8s (ctrN n i 8))] w fun e w' => e = .returned (.tuple #[.agg (u8s (blkV key n i)), .int .i64 0]) ∧ (∃ r, CipAt w' gc 1 0 (cb key) r) ∧ Fr w w' (fun k => k = gc) := by
 rw [blkV_eq]
 exact turn_calls gc key (ctrN n i 8) hk (ctrN_len _ _ _) w hs
def A_block.T8 : Bool × List (List Nat × List Nat) := (true, [([], []), ([0], [0]), ([], []), ([1, 2, 1], [1, 2]), ([3], [3]), ([3], [3]), ([4, 3, 0, 1, 2, 3, 4, 5], [4]), ([5, 6, 0, 1, 2, 3, 4, 5, 6], [5])])
def A_block.B8 : List Nat := [0, 1, 0, 7, 15, 15, 63, 127]
theorem A_block.tab8 : rtab .any (opsOf Tryz.f62 8) = A_block.T8 := by kernel_rfl
theorem A_block.bits8 : waitsOk A_block.T8.2 A_block.B8 = true := by kernel_rfl
set_option maxHeartbeats 8000000 in
set_option maxRecDepth 100000 in
theorem block_calls (gs gc : Nat) (key : List Int) (hk : key.length = 16 ∧ AllB key) (n i : Int) (w : World) (hs : StrAt w gs gc) (hc : CipK w gc key) :
  Calls Tryz.prog 62 #[.pointer (some ⟨gs, 0, none⟩), .int .u64 n, .int .i64 i] w fun e w' => e = .returned (.tuple #[.agg (u8s (blkV key n i)), .int .i64 0]) ∧ CipK w' gc key ∧ Fr w w' (fun k => k = gc) := by
 have HK := Aside0.mk hk
 have HS := Aside0.mk hs
 have HC := Aside0.mk hc
 clear hk hs hc
 go_enter Tryz.func62, Tryz.ntmps62
 go_wp2_with (first
  | ((with_reducible refine gate_dst (N := 6) rfl ?_); refine alloc_v rfl rfl info71 ?hr ?_; (case hr => rfl); intro gr hg w2 hb hw; have HS2 := Aside0.mk (HS.out.below hw); have HC2 := Aside0.mk (HC.out.below hw); have HB2 := Aside0.mk hw; have HG2 := Aside0.mk hg; have HR2 : Aside0 (ArrB w2 gr 71 (List.replicate 16 0)) := ⟨hb⟩; clear hb hw hg)
  | ((with_reducible refine gate_dst (N := 8) rfl ?_); refine alloc_v rfl rfl info71 ?hr ?_; (case hr => rfl); intro gb hg w3 hb hw; have HI : Aside0 (BlkI w w3 gs gc gr gb key (ctrN n i 0)) := ⟨⟨by have := blk_lt HS.out; have := HC.out.lt; have := HG2.out; have := blk_lt HR2.out; omega, HS2.out.below hw, HC2.out.below hw, HR2.out.below hw, by rw [ctrN]; exact hb, below_step HB2.out hw⟩⟩; clear hb hw hg))
 clear HS2 HC2 HB2 HG2 HR2
 go_loopg [10] 9 (fun kq v10 w' => ∃ k : Nat, v10 = .int .i64 (k : Int) ∧ Aside0 (kq = 9 - k ∧ k ≤ 8) ∧ Aside0 (BlkI w w' gs gc gr gb key (ctrN n i k)))
 case atStart => exact ⟨0, by first | rfl | simp, ⟨by omega⟩, HI⟩
 case round =>
  obtain ⟨k, rfl, HKk, HI1⟩ := hrel
  clear HI
  by_cases c1 : (k : Int) < 8
  ·have c1b : decide ((k : Int) < 8) = true := decide_eq_true c1
   have HIk : Aside0 (k < 8) := ⟨by omega⟩
   have h7 : (k : Int) ≤ 7 := by omega
   have hk0 := eq_true (Int.natCast_nonneg k)
   have hk16 := eq_true (show (k : Int) < 16 by omega)
   have e8 : wrap64 (8 + (k : Int)) = ((8 + k : Nat) : Int) := by unfold wrap64; omega
   have hp0 := eq_true (Int.natCast_nonneg (8 + k))
   have hp16 := eq_true (show ((8 + k : Nat) : Int) < 16 by omega)
   have z8 := eq_true (show (0 : Int) ≤ 8 * (7 - (k : Int)) by omega)
   obtain ⟨x, hx⟩ : ∃ x, n / 2 ^ (8 * (7 - k)) % 256 = x := ⟨_, rfl⟩
   obtain ⟨y, hy⟩ : ∃ x, IntKind.u64.wrap i / 2 ^ (8 * (7 - k)) % 256 = x := ⟨_, rfl⟩
   have HX := Aside0.mk (show n / 2 ^ (8 * (7 - k)) % 256 = x ∧ IntKind.u64.wrap i / 2 ^ (8 * (7 - k)) % 256 = y from ⟨hx, hy⟩)
   have hc1 := HI1.out.b.cell k (by rw [ctrN_len]; omega)
   have hf1 := HI1.out.b.frozen k
   have HI2 := Aside0.mk (HI1.out.set k x)
   have hc2 := HI2.out.b.cell (8 + k) (by rw [List.length_set, ctrN_len]; omega)
   have hf2 := HI2.out.b.frozen (8 + k)
   clear c1
   go_wp2
   go_roundg (gk - 1)
   case measure => have := HKk.out; have := HIk.out; omega
   case rel =>
    refine ⟨k + 1, ?_, ⟨by have := HKk.out; have := HIk.out; omega⟩, ⟨?_⟩⟩
    ·have := HIk.out
     first
     | rfl
     | (congr 1; unfold wrap64; omega)
     | (congr 1; done)
    ·rw [ctrN, HX.out.1, HX.out.2]
     exact HI2.out.set (8 + k) y
  ·have hk : k = 8 := by have := HKk.out; omega
   have c1b : decide ((k : Int) < 8) = false := decide_eq_false c1
   clear c1
   subst hk
   go_wp2
   have HX1 : Aside0 (BlkI w wr.drew gs gc gr gb key (ctrN n i 8)) := ⟨HI1.out.drew⟩
   refine start_ (n := 8) (S := fun w' => w'.heap[gb]? = some (.cells (u8s (ctrN n i 8)) 71 (0, 0))) (ds := [6]) #[false, false, false, false, false, false, false, false] (by kernel_rfl) rfl rfl (HX1.out.b) (fun hHeld => ?_)
   refine with_tabW A_block.tab8 A_block.bits8 (fun HT_ HW_ => ?_)
   generalize wr.drew = x1 at HX1 hHeld ⊢
   refine pure_ (i := 0) (N := some 32) (v := ?_) (a' := ?_) #[true, false, false, false, false, false, false, false] rfl rfl (any_of HT_.out (by kernel_rfl)) (fun _ _ _ h => h) (Or.inl ⟨by rfl, ?_⟩) ?_ ?_
   rotate_left
   ·intro w'
    go_simp
    with_reducible rfl
   rotate_left
   ·simp only [Act.put, List.setIfInBounds_toArray, List.set_cons_zero, List.set_cons_succ, i64_w, i32_w]
    rfl
   refine take_ (i := 2) (N := some 34) (v := .agg (u8s (ctrN n i 8))) (a' := ?_) #[true, false, true, false, false, false, false, false] rfl rfl (take_ofW HT_.out HW_.out (by kernel_rfl)) (fun _ _ _ h => h) (yields_row (by rfl) 71 (.tmp 8) rfl gb rfl 71 (u8s (ctrN n i 8)) _ (fun _ s => s) Tryz.underlying71 rfl (by rw [u8s_size, ctrN_len]; exact size71)) hHeld ?_ ?_
   rotate_left
   ·simp only [Act.put, List.setIfInBounds_toArray, List.set_cons_zero, List.set_cons_succ, i64_w, i32_w]
    rfl
   refine one_ (i := 1) (N := some 33) #[true, true, true, false, false, false, false, false] rfl rfl (one_of HT_.out (by kernel_rfl)) (by decide) (fun K hK => ?_)
   refine goes_ Tryz.func52 (by kernel_rfl) rfl #[.pointer (some ⟨gs, 0, none⟩)] (by rfl) rfl rfl (by simp only [List.map_toArray, List.map_cons, List.map_nil]; rfl) ?_
   with_reducible refine (cipher_calls gs gc _ HX1.out.s).mono ?_
   rintro e x2 ⟨rfl, hw_⟩
   refine ⟨_, rfl, ?_⟩
   have hw1_ := hw_.symm
   clear hw_
   subst hw1_
   refine hK.out _ _ (HX1.out.b) (fun hHeld => ?_)
   clear hK K
   refine norm_ (a' := ?_) ?_ ?_
   rotate_left
   ·show Act.put _ (some 33) _ = _
    simp only [Act.put, List.setIfInBounds_toArray, List.set_cons_zero, List.set_cons_succ, i64_w, i32_w]
    rfl
   refine one_ (i := 3) (N := some 35) #[true, true, true, true, false, false, false, false] rfl rfl (one_of HT_.out (by kernel_rfl)) (by decide) (fun K hK => ?_)
   refine goes_ Tryz.func69 (by kernel_rfl) rfl #[.pointer (some ⟨gc, 0, none⟩), .agg (u8s (ctrN n i 8))] (by rfl) rfl rfl (by simp only [List.map_toArray, List.map_cons, List.map_nil]; rfl) ?_
   with_reducible refine (turn_blk gc key HK.out n i _ HX1.out.c).mono ?_
   rintro e x3 ⟨rfl, hc, hf⟩
   refine ⟨_, rfl, ?_⟩
   have HX3 : Aside0 (CipK x3 gc key ∧ ArrB x3 gr 71 (List.replicate 16 0) ∧ ArrB x3 gb 71 (ctrN n i 8) ∧ Fr w x3 (fun k => k = gc)) := ⟨let ⟨r, hr⟩ := hc; ⟨r, .inr hr⟩, HX1.out.r.fr hf (by have := HX1.out.o; show ¬ gr = gc; omega), HX1.out.b.fr hf (by have := HX1.out.o; show ¬ gb = gc; omega), (Fr.of_below HX1.out.f _).trans hf (fun k e => .inl e)⟩
   clear hc hf
   refine hK.out _ _ (HX3.out.2.2.1) (fun hHeld => ?_)
   clear hK K
   refine norm_ (a' := ?_) ?_ ?_
   rotate_left
   ·show Act.put _ (some 35) _ = _
    simp only [Act.put, List.setIfInBounds_toArray, List.set_cons_zero, List.set_cons_succ, i64_w, i32_w]
    rfl
   refine pure_ (i := 4) (N := some 36) (v := ?_) (a' := ?_) #[true, true, true, true, true, false, false, false] rfl rfl (any_of HT_.out (by kernel_rfl)) (fun _ _ _ h => h) (Or.inl ⟨by rfl, ?_⟩) ?_ ?_
   rotate_left
   ·intro w'
    go_simp
    with_reducible rfl
   rotate_left
   ·simp only [Act.put, List.setIfInBounds_toArray, List.set_cons_zero, List.set_cons_succ, i64_w, i32_w]
    rfl
   refine pure_ (i := 5) (N := some 37) (v := ?_) (a' := ?_) #[true, true, true, true, true, true, false, false] rfl rfl (any_of HT_.out (by kernel_rfl)) (fun _ _ _ h => h) (Or.inl ⟨by rfl, ?_⟩) ?_ ?_
   rotate_left
   ·intro w'
    go_simp
    with_reducible rfl
   rotate_left
   ·simp only [Act.put, List.setIfInBounds_toArray, List.set_cons_zero, List.set_cons_succ, i64_w, i32_w]
    rfl
   refine last_ (i := 6) (N := none) #[true, true, true, true, true, true, true, false] rfl rfl (one_of HT_.out (by kernel_rfl)) (by decide) (fun K hK => ?_)
   refine store_part_step (t := 71) (e := 71) (g := gr) (off := 0) (cur := (List.replicate 16 0).map (Value.int .u8)) (cells := u8s (blkV key n i)) rfl rfl rfl (by rfl) (by rfl) HX3.out.2.1 (by rw [u8s_size, (blkV_ok HK.out n i).1]; exact size71) (by rw [u8s_size, (blkV_ok HK.out n i).1]; exact Nat.le_refl _) (u8s_one _) ?_
   intro x4 hb hf
   have HX4 : Aside0 (CipK x4 gc key ∧ ArrB x4 gr 71 (blkV key n i) ∧ Fr w x4 (fun k => k = gc)) := ⟨HX3.out.1.fr hf (by have := HX1.out.o; show ¬ gc = gr; omega), by rw [show splice ((List.replicate 16 0).map (Value.int .u8)) 0 (u8s (blkV key n i)).toList = (blkV key n i).map (Value.int .u8) from splice_all _ _ (by rw [(blkV_ok HK.out n i).1, List.length_replicate])] at hb; exact hb, HX3.out.2.2.2.trans hf (fun k e => .inr (by have := HX1.out.o; omega))⟩
   clear hb hf
   refine hK.out _ _ ?_
   clear hK K
   refine pure_ (i := 7) (N := some 7) (v := ?_) (a' := ?_) #[true, true, true, true, true, true, true, true] rfl rfl (any_of HT_.out (by kernel_rfl)) (fun _ _ _ h => h) (Or.inl ⟨by rfl, ?_⟩) ?_ ?_
   rotate_left
   ·intro w'
    go_simp
    with_reducible rfl
   rotate_left
   ·simp only [Act.put, List.setIfInBounds_toArray, List.set_cons_zero, List.set_cons_succ, i64_w, i32_w]
    rfl
   refine done_ (done_of HT_.out (by kernel_rfl)) ?_

   go_wp2
   refine bodyPost_ret (results_ct rfl _ _ gr 71 (u8s (blkV key n i)) (0, 0) _ rfl HX4.out.2.1 Tryz.underlying71 rfl (by rw [u8s_size, (blkV_ok HK.out n i).1]; exact size71)) rfl ?_
   exact ⟨rfl, HX4.out.1, HX4.out.2.2⟩
end Go.Proofs.YteadamkkbgnpeaaGreat.A
end OfA9
section OfR1
set_option linter.unusedVariables false
set_option linter.unusedSimpArgs false
namespace Go.Proofs.YteadamkkbgnpeaaGreat.A
open Go.RowKit YteadamkkbgnpeaaGreatW.PrintLast B S QTC YteadamkkbgnpeaaGreatW.PrintWords YteadamkkbgnpeaaGreatW.PrintMore
/-- Block k holds bytes. -/
def T5 (w : World) (k : Nat) : Prop := ∃ cs fr, w.heap[k]? = some (.cells cs 5 fr)
theorem T5.fr {w w1 : World} {k : Nat} {S : Nat → Prop} (h : T5 w k) (f : Fr w w1 S) (hn : ¬ S k) : T5 w1 k := let ⟨cs, fr, e⟩ := h; ⟨cs, fr, f.blk e hn⟩
theorem T5.not {w : World} {g t : Nat} {cs : Array Value} {fr : Nat × Nat} (h : w.heap[g]? = some (.cells cs t fr)) (ht : t ≠ 5) : ¬ T5 w g := by
 rintro ⟨cs', fr', e⟩
 rw [h] at e
 injection e with e
 injection e with _ e
 exact ht e
/-- Bytes that a call made, behind v: from block lo on. -/
structure Byt (lo : Nat) (w : World) (v : Value) (l : List Int) : Prop where
 mk_ ::
 out : ∃ A c, v = .slice A l.length c ∧ l.length ≤ c ∧ (Kd.int .u8).C w A l.length l ∧ ∀ ad, A = some ad → lo ≤ ad.block ∧ T5 w ad.block
section
variable {lo base : Nat} {w w1 : World} {v : Value} {l : List Int}
theorem C_lt {k : IntKind} {A : Option Addr} {n : Nat} {xs : List Int} (h : (Kd.int k).C w A n xs) {ad : Addr} (e : A = some ad) (hn : 0 < n) : ad.block < w.heap.size := by
 obtain ⟨ad', e', hcc⟩ := h.2.2 hn
 rw [e] at e'
 injection e' with e'
 subst e'
 have hl : 0 < xs.length := by have := h.1; omega
 obtain ⟨cs, h1, h2, h3⟩ := hcc 0 _ (List.getElem?_eq_getElem hl)
 obtain rfl : cs = [.int k xs[0]] := h2
 have h5 := World.block_lt_of_cell? w _ (h3 0 _ rfl)
 rwa [add_block] at h5
theorem Byt.fr {S : Nat → Prop} (h : Byt lo w v l) (f : Fr w w1 S) (hS : ∀ k, S k → ¬ T5 w k) : Byt lo w1 v l := by
 obtain ⟨A, c, h1, h2, h3, h4⟩ := h.out
 exact ⟨⟨A, c, h1, h2, C_fr h3 f (fun ad e _ hs => hS _ hs (h4 ad e).2), fun ad e => ⟨(h4 ad e).1, (h4 ad e).2.fr f (fun hs => hS _ hs (h4 ad e).2)⟩⟩⟩
theorem Byt.below (h : Byt lo w v l) (f : Below w.heap.size w w1) : Byt lo w1 v l := h.fr (Fr.of_below f (fun _ => False)) (fun _ e => e.elim)
theorem Byt.lower {lo' : Nat} (h : Byt lo w v l) (hl : lo' ≤ lo) : Byt lo' w v l := by
 obtain ⟨A, c, h1, h2, h3, h4⟩ := h.out
 exact ⟨⟨A, c, h1, h2, h3, fun ad e => ⟨Nat.le_trans hl (h4 ad e).1, (h4 ad e).2⟩⟩⟩
theorem Byt.of_R {ok : Nat → Prop} (h : (Kd.int .u8).R 5 w base ok v l) : Byt base w v l := by
 obtain ⟨A, c, hv, hc, hC⟩ := Kd.R_reads h
 refine ⟨⟨A, c, hv, hc, hC, fun ad e => ?_⟩⟩
 have hob : v.ownBlock = some ad.block := by rw [hv, e]; rfl
 obtain ⟨cells, hh⟩ := own_typed (Kd.R_own h).choose_spec ad.block hob
 exact ⟨Kd.R_base h _ hob, cells, _, hh⟩
theorem Byt.nil (lo : Nat) (w : World) : Byt lo w (.slice none 0 0) [] := ⟨⟨none, 0, rfl, Nat.le_refl _, ⟨rfl, Nat.zero_le _, fun h => absurd h (Nat.lt_irrefl 0)⟩, fun ad e => by cases e⟩⟩
theorem R8_fr {ok : Nat → Prop} {S : Nat → Prop} (h : (Kd.int .u8).R 5 w base ok v l) (f : Fr w w1 S) (hS : ∀ k, S k → ¬ T5 w k) : (Kd.int .u8).R 5 w1 base ok v l :=
 Kd.R_mono (Kd.R_move (Kd.R_bound h) (fun k ⟨_, _, hk, q, hq, cells, hc⟩ => f.block k hk (fun hs => hS k hs ⟨cells, (0, 0), by
  simp only [Kd.int, Kd.scalar, List.mem_singleton] at hq
  rw [hq] at hc; exact hc⟩))) (fun _ hk => hk.1)
/-- Bytes that may be written, too. -/
def WRow (lo : Nat) (w : World) (v : Value) (l : List Int) : Prop :=
 (l = [] ∧ v = .slice none 0 0) ∨ ∃ g c tail, v = .slice (some ⟨g, 0, none⟩) l.length c ∧ lo ≤ g ∧ l.length ≤ c ∧ l.length ≤ maxLen ∧ w.heap[g]? = some (.cells (l.map (Value.int .u8) ++ tail).toArray 5 (0, 0))
theorem WRow.of_R {ok : Nat → Prop} (h : (Kd.int .u8).R 5 w base ok v l) : WRow base w v l := by
 have ho := Kd.own_of_R h
 rcases ho.2 with ⟨e, hn⟩ | ⟨g, cap, cur, e, hb, hg, hc, hm, hs, ht⟩
 ·exact .inl ⟨List.eq_nil_of_length_eq_zero hn, e⟩
 ·refine .inr ⟨g, cap, cur.toList.drop l.length, e, hb, hc, by omega, ?_⟩
  rw [hg]
  congr 2
  rw [Nat.mul_one] at ht
  have : l.map (Value.int .u8) = cur.toList.take l.length := ht.symm
  rw [this, List.take_append_drop, Array.toArray_toList]
theorem C_of_blk {g : Nat} {tail : List Value} {t : Nat} {fr : Nat × Nat} (hg : w.heap[g]? = some (.cells (l.map (Value.int .u8) ++ tail).toArray t fr)) (hm : l.length ≤ maxLen) : (Kd.int .u8).C w (some ⟨g, 0, none⟩) l.length l := by
 refine ⟨rfl, hm, fun _ => ⟨_, rfl, fun q x hq => ?_⟩⟩
 have hql : q < l.length := by
  rcases Nat.lt_or_ge q l.length with h | h
  ·exact h
  ·rw [List.getElem?_eq_none h] at hq; cases hq
 refine ⟨[.int .u8 x], rfl, rfl, fun z u hu => ?_⟩
 match z, hu with
 | 0, hu =>
  cases hu
  show w.cell? ((⟨g, 0, none⟩ : Addr).add (q * 1 + 0)) = _
  have hsz : (⟨g, 0, none⟩ : Addr).add (q * 1 + 0) = ⟨g, q, none⟩ := by rw [Addr.add_mid, show 0 + (q * 1 + 0) = q by omega]
  rw [hsz, cell_of_row w g q _ t fr hg]
  obtain ⟨_, hx⟩ := List.getElem?_eq_some_iff.1 hq
  simp [List.getElem?_append_left, hql, hx]
theorem WRow.byt (h : WRow lo w v l) : Byt lo w v l := by
 rcases h with ⟨rfl, rfl⟩ | ⟨g, c, tail, rfl, hlo, hc, hm, hg⟩
 ·exact Byt.nil _ _
 ·exact ⟨⟨some ⟨g, 0, none⟩, c, rfl, hc, C_of_blk hg hm, fun ad e => by injection e with e; subst e; exact ⟨hlo, _, _, hg⟩⟩⟩
/-- Its beginning. -/
theorem WRow.cut {A : Option Addr} {n c m : Nat} (h : WRow lo w (.slice A n c) l) (hm : m ≤ l.length) (h0 : 0 < m) : WRow lo w (.slice A m m) (l.take m) := by
 rcases h with ⟨rfl, e⟩ | ⟨g, c', tail, e, hlo, hc, hmx, hg⟩
 ·rw [List.length_nil] at hm
  omega
 ·injection e with e1 e2 e3
  subst e1
  have hl : (l.take m).length = m := by rw [List.length_take]; omega
  refine .inr ⟨g, m, (l.drop m).map (Value.int .u8) ++ tail, by rw [hl], hlo, by rw [hl]; exact Nat.le_refl _, by rw [hl]; omega, ?_⟩
  rw [hg]
  congr 2
  rw [← List.append_assoc, ← List.map_append, List.take_append_drop]
theorem WRow.row {i : Nat} (h : WRow lo w v l) (hi : i < l.length) : ∃ g c tail, v = .slice (some ⟨g, 0, none⟩) l.length c ∧ lo ≤ g ∧ l.length ≤ c ∧ l.length ≤ maxLen ∧ w.heap[g]? = some (.cells (l.map (Value.int .u8) ++ tail).toArray 5 (0, 0)) := by
 rcases h with ⟨rfl, _⟩ | h
 ·exact absurd hi (by simp)
 ·exact h
end
theorem CipK.not5 {w : World} {g : Nat} {key : List Int} (h : CipK w g key) : ¬ T5 w g := by obtain ⟨r, h | h⟩ := h <;> exact T5.not h (by decide)
theorem C_of_ArrB {w : World} {g t : Nat} {l : List Int} (h : ArrB w g t l) (hm : l.length ≤ maxLen) : (Kd.int .u8).C w (some ⟨g, 0, none⟩) l.length l :=
 C_of_blk (tail := []) (by rw [List.append_nil]; exact h) hm
end Go.Proofs.YteadamkkbgnpeaaGreat.A
end OfR1
section OfA10
set_option linter.unusedVariables false
set_option linter.unusedSimpArgs false
namespace Go.Proofs.YteadamkkbgnpeaaGreat.A
open Go.RowKit YteadamkkbgnpeaaGreatW.PrintLast B S QTC YteadamkkbgnpeaaGreatW.PrintWords YteadamkkbgnpeaaGreatW.PrintMore
open Go (run_slice_lhm)
theorem cut_lhm {A : Option Addr} {n c m : Nat} (hm : m ≤ c) (h0 : 0 < m) (W : World) :
  (Instr.slice 22 (.slice A n c) (some (.int .i64 0)) (some (.int .i64 (m : Int))) (some (.int .i64 (m : Int)))).run Tryz.prog W = .ok (.slice A m m) W := by
 obtain ⟨i0, hi0, hz0⟩ := info5
 have hel : Tryz.prog.elem 22 = 5 := by simp [Program.elem, Tryz.underlying22]
 have hu : Tryz.prog.underlying 22 = some (.slice (Tryz.prog.elem 22)) := by rw [hel]; exact Tryz.underlying22
 have ha : (A.map fun x => x.add 0) = A := by cases A <;> simp [Addr.add]
 rw [run_slice_lhm W 22 A n c hu .i64 .i64 .i64 0 (m : Int) (m : Int) (by omega) (by omega) (by omega) (by omega), hel]
 simp [sizeOf, typeInfo, hi0, sliced, Result.andThen, ha]
theorem CipK.bel {w w1 : World} {g B : Nat} {key : List Int} (h : CipK w g key) (k : Below B w w1) (hg : g < B) : CipK w1 g key := let ⟨r, hr⟩ := h; ⟨r, hr.imp (fun h => (k.block g hg).trans h) (fun h => (k.block g hg).trans h)⟩
theorem StrAt.bel {w w1 : World} {gs gc B : Nat} (h : StrAt w gs gc) (k : Below B w w1) (hg : gs < B) : StrAt w1 gs gc := (k.block gs hg).trans h
set_option maxHeartbeats 8000000 in
set_option maxRecDepth 100000 in
theorem at_calls (gs gc : Nat) (key : List Int) (hk : key.length = 16 ∧ AllB key) (n : Int) (len : Nat) (hl : len ≤ 65536) (w : World) (hs : StrAt w gs gc) (hc : CipK w gc key) :
  Calls Tryz.prog 53 #[.pointer (some ⟨gs, 0, none⟩), .int .u64 n, .int .i64 0, .int .i64 (len : Int)] w fun e w' => ∃ v, e = .returned (.tuple #[v, .int .i64 0]) ∧ WRow w.heap.size w' v (strV key n len) ∧ CipK w' gc key ∧ Fr w w' (fun k => k = gc) := by
 have HK := Aside0.mk hk
 have HS := Aside0.mk hs
 have HC := Aside0.mk hc
 have HL := Aside0.mk hl
 have HG : Aside0 (gs < w.heap.size ∧ gc < w.heap.size ∧ gs ≠ gc) := ⟨blk_lt hs, hc.lt, hs.ne hc⟩
 have c1 : decide ((len : Int) < 0) = false := decide_eq_false (by omega)
 have c2 : decide ((len : Int) > 65536) = false := decide_eq_false (by omega)
 have c3 : decide (65536 < (len : Int)) = false := decide_eq_false (by omega)
 have e0 : wrap64 (len : Int) = (len : Int) := by unfold wrap64; omega
 have hlen0 := eq_true (Int.natCast_nonneg len)
 clear hk hs hc hl
 go_enter Tryz.func53, Tryz.ntmps53
 go_wp2_with (first
  | (go_at_call 52; (with_reducible refine (cipher_calls gs gc _ HS.out).mono ?_); rintro e w_ ⟨rfl, hw_⟩; have hw1_ := hw_.symm; clear hw_; subst hw1_))
 all_goals (try (exfalso; omega))
 go_loopg [11, 12] (len + 1) (fun kq v11 v12 w' => ∃ i : Nat, v12 = .int .i64 (i : Int) ∧ Aside0 (kq = len + 1 - i ∧ 16 * i ≤ len + 15) ∧ Aside0 ((Kd.int .u8).R 5 w' w.heap.size (fun _ => True) v11 (strN key n i)) ∧ Aside0 (StrAt w' gs gc ∧ CipK w' gc key ∧ Fr w w' (fun k => k = gc)))
 case atStart => exact ⟨0, by first | rfl | simp, ⟨by omega⟩, ⟨by rw [strN_zero]; exact Kd.R_nil _ _ _ _ _⟩, ⟨HS.out, HC.out, Fr.refl _ _⟩⟩
 case round =>
  obtain ⟨i, rfl, HKi, HR, HW⟩ := hrel
  obtain ⟨m, hm⟩ : ∃ m, i * 16 = m := ⟨_, rfl⟩
  have e16 : wrap64 ((i : Int) * 16) = (m : Int) := by have := HKi.out; have := HL.out; rw [← hm]; unfold wrap64; omega
  have HM := Aside0.mk hm
  clear hm
  by_cases c4 : (m : Int) < (len : Int)
  ·have c4b : decide ((m : Int) < (len : Int)) = true := decide_eq_true c4
   have c4c : decide (m < len) = true := decide_eq_true (by omega)
   have HIi : Aside0 (m < len) := ⟨by omega⟩
   have hlt := HIi.out
   clear c4
   obtain ⟨A1, cc1, hv1, _⟩ := Kd.R_reads HR.out
   have HV1 := Aside0.mk hv1
   subst hv1
   go_wp2_with (first
    | (go_at_call 62; (with_reducible refine (block_calls gs gc key HK.out n (i : Int) _ HW.out.1 HW.out.2.1).mono ?_); rintro e w2 ⟨rfl, hc, hf⟩; have HW2 : Aside0 (StrAt w2 gs gc ∧ CipK w2 gc key ∧ Fr w w2 (fun k => k = gc)) := ⟨HW.out.1.fr hf HG.out.2.2, hc, HW.out.2.2.trans hf (fun k e => .inl e)⟩; have HR2 := Aside0.mk (R8_fr HR.out hf (fun k e => by rw [e]; exact HW.out.2.1.not5)); clear hc hf)
    | ((with_reducible refine gate_dst (N := 13) rfl ?_); refine alloc_v rfl rfl info71 ?hr ?_; (case hr => rfl); intro gb hg w3 hb hw; have HW3 : Aside0 (StrAt w3 gs gc ∧ CipK w3 gc key ∧ Fr w w3 (fun k => k = gc)) := ⟨HW2.out.1.below hw, HW2.out.2.1.below hw, HW2.out.2.2.then_below hw⟩; have HR3 := Aside0.mk (Kd.R_below HR2.out hw); have HA3 : Aside0 (ArrB w3 gb 71 (List.replicate 16 0)) := ⟨hb⟩; have HG3 : Aside0 (w.heap.size ≤ gb) := ⟨by have := HW2.out.2.2.size; omega⟩; clear hb hw hg)
    | (refine store_row (t := 71) (e := 71) (g := gb) (cells := u8s (blkV key n (i : Int))) rfl rfl rfl rfl rfl HA3.out (by rw [u8s_size, (blkV_ok HK.out n (i : Int)).1]; exact size71) (by rw [u8s_size, u8s_size, (blkV_ok HK.out n (i : Int)).1]; rfl) (u8s_one _) ?_; intro w4 hb hf; have HA4 : Aside0 (ArrB w4 gb 71 (blkV key n (i : Int))) := ⟨hb⟩; have HW4 : Aside0 (StrAt w4 gs gc ∧ CipK w4 gc key ∧ Fr w w4 (fun k => k = gc)) := ⟨HW3.out.1.fr hf (by have := HG3.out; have := HG.out; show ¬ gs = gb; omega), HW3.out.2.1.fr hf (by have := HG3.out; have := HG.out; show ¬ gc = gb; omega), HW3.out.2.2.trans hf (fun k e => .inr (by rw [e]; exact HG3.out))⟩; have HR4 := Aside0.mk (R8_fr HR3.out hf (fun k e => by rw [e]; exact T5.not HA3.out (by decide))); clear hb hf)
    | ((with_reducible refine gate_builtin (b := .append) (xs := #[.tmp 56, .tmp 57]) rfl ?_); at_builtin; refine Kd.R_append_rows (Kd.int .u8) (w0 := w4) w.heap.size rfl (.tmp 56) (.tmp 57) 22 5 (.int .u8 0) 1 rfl Tryz.underlying22 infoB5 rfl (by decide) (by decide) _ (strN key n i) (blkV key n (i : Int)) (some ⟨gb, 0, none⟩) 16 16 (fun _ => True) (fun _ => False) rfl rfl HR4.out (by have h := C_of_ArrB HA4.out (by rw [(blkV_ok HK.out n (i : Int)).1]; decide); rw [(blkV_ok HK.out n (i : Int)).1] at h; exact h) (fun _ _ h => h) (fun _ hk => hk.elim) (fun _ _ => trivial) (Below.refl _ _) HW4.out.2.2.size (by rw [(strN_ok HK.out n i).1]; have := HM.out; have := HIi.out; have := HL.out; omega) ?_; intro v5 w5 ho hb hg hat; have HR5 : Aside0 ((Kd.int .u8).R 5 w5 w.heap.size (fun _ => True) v5 (strN key n (i + 1))) := ⟨by rw [strN_succ]; exact ho⟩; have HW5 : Aside0 (StrAt w5 gs gc ∧ CipK w5 gc key ∧ Fr w w5 (fun k => k = gc)) := ⟨HW4.out.1.bel hb HG.out.1, HW4.out.2.1.bel hb HG.out.2.1, HW4.out.2.2.grown hg (fun k e => .inr (Kd.R_base HR4.out k e))⟩; clear ho hb hg hat))
   go_roundg (gk - 1)
   case measure => have := HKi.out; have := HIi.out; have := HM.out; omega
   case rel =>
    refine ⟨i + 1, ?_, ⟨by have := HKi.out; have := HIi.out; have := HM.out; omega⟩, HR5, HW5⟩
    have := HIi.out
    have := HL.out
    have := HM.out
    first
    | rfl
    | (congr 1; unfold wrap64; omega)
    | (congr 1; done)
  ·have c4b : decide ((m : Int) < (len : Int)) = false := decide_eq_false c4
   have c4c : decide (m < len) = false := decide_eq_false (by omega)
   have hi : i = (len + 15) / 16 := by have := HKi.out; have := HM.out; omega
   clear c4
   have HI := Aside0.mk hi
   clear hi
   by_cases c5 : len = 0
   ·have c5b : ((len : Int) == 0) = true := beq_iff_eq.mpr (by omega)
    have c5c : (len == 0) = true := beq_iff_eq.mpr c5
    have HZ := Aside0.mk c5
    clear c5
    go_wp2
    go_ret2
    exact ⟨_, rfl, .inl ⟨by rw [HZ.out]; unfold strV; exact List.take_zero, rfl⟩, HW.out.2.1, HW.out.2.2⟩
   ·have c5b : ((len : Int) == 0) = false := beq_eq_false_iff_ne.mpr (by omega)
    have c5c : (len == 0) = false := beq_eq_false_iff_ne.mpr c5
    have HZ : Aside0 (0 < len) := ⟨by omega⟩
    clear c5
    obtain ⟨A1, cc1, hv1, hcc, _⟩ := Kd.R_reads HR.out
    subst hv1
    have hll : (strN key n i).length = 16 * i := (strN_ok HK.out n i).1
    have hcut := cut_lhm (A := A1) (n := (strN key n i).length) (c := cc1) (m := len) (by have := HI.out; omega) HZ.out
    have HCC := Aside0.mk hcc
    clear hcc hll
    go_wp2
    go_ret2
    refine ⟨_, rfl, ?_, HW.out.2.1, HW.out.2.2⟩
    have h := (WRow.of_R HR.out).cut (m := len) (by rw [(strN_ok HK.out n i).1]; have := HI.out; omega) HZ.out
    rw [HI.out] at h
    exact h
/-- The stream's bytes, the first i of them turned. -/
def hN (S l : List Int) (i : Nat) : List Int := (List.range l.length).map fun j => if j < i then x8 (S.getD j 0) (l.getD j 0) else S.getD j 0
theorem hN_len (S l : List Int) (i : Nat) : (hN S l i).length = l.length := by simp [hN]
theorem hN_zero (S l : List Int) (h : S.length = l.length) : hN S l 0 = S := by
 apply List.ext_getElem?
 intro j
 by_cases hj : j < l.length
 ·simp [hN, hj, List.getD_eq_getElem?_getD, h]
 ·rw [List.getElem?_eq_none (by rw [hN_len]; omega), List.getElem?_eq_none (by omega)]
theorem hN_at (S l : List Int) (i : Nat) (h : i < l.length) : (hN S l i).getD i 0 = S.getD i 0 := by
 rw [List.getD_eq_getElem?_getD]
 simp [hN, h]
theorem hN_set (S l : List Int) (i : Nat) : (hN S l i).set i (x8 (S.getD i 0) (l.getD i 0)) = hN S l (i + 1) := by
 apply List.ext_getElem?
 intro j
 rw [List.getElem?_set]
 by_cases hj : j < l.length
 ·by_cases e : i = j
  ·subst e
   rw [if_pos rfl, if_pos (by rw [hN_len]; exact hj)]
   simp [hN, hj]
  ·rw [if_neg e]
   simp only [hN, List.getElem?_map, List.getElem?_range hj, Option.map_some, Option.some.injEq]
   by_cases h1 : j < i
   ·rw [if_pos h1, if_pos (by omega)]
   ·rw [if_neg h1, if_neg (by omega)]
 ·split
  ·rw [if_neg (by rw [hN_len]; omega), List.getElem?_eq_none (by rw [hN_len]; omega)]
  ·rw [List.getElem?_eq_none (by rw [hN_len]; omega), List.getElem?_eq_none (by rw [hN_len]; omega)]
theorem hN_all (key : List Int) (n : Int) (l : List Int) : hN (strV key n l.length) l l.length = hideV key n l := by
 rw [hideV_eq]
 unfold hN
 apply List.map_congr_left
 intro j hj
 rw [if_pos (List.mem_range.1 hj)]
set_option maxHeartbeats 8000000 in
set_option maxRecDepth 100000 in
theorem hide_calls (gs gc : Nat) (key : List Int) (hk : key.length = 16 ∧ AllB key) (n : Int) (l : List Int) (A : Option Addr) (c : Nat) (hl : l.length ≤ 65536) (w : World) (hs : StrAt w gs gc) (hc : CipK w gc key) (hr : (Kd.int .u8).C w A l.length l) (hA : ∀ ad, A = some ad → 0 < l.length → ad.block ≠ gc) :
  Calls Tryz.prog 36 #[.pointer (some ⟨gs, 0, none⟩), .int .u64 n, .slice A l.length c] w fun e w' => ∃ v, e = .returned (.tuple #[v, .int .i64 0]) ∧ Byt w.heap.size w' v (hideV key n l) ∧ CipK w' gc key ∧ Fr w w' (fun k => k = gc) := by
 have HK := Aside0.mk hk
 have HS := Aside0.mk hs
 have HC := Aside0.mk hc
 have HL := Aside0.mk hl
 have HR := Aside0.mk hr
 have HA := Aside0.mk hA
 have HG : Aside0 (gs < w.heap.size ∧ gc < w.heap.size ∧ gs ≠ gc) := ⟨blk_lt hs, hc.lt, hs.ne hc⟩
 have c2 : decide ((l.length : Int) > 65536) = false := decide_eq_false (by omega)
 have c3 : decide (65536 < (l.length : Int)) = false := decide_eq_false (by omega)
 have c4 : decide (65536 < l.length) = false := decide_eq_false (by omega)
 obtain ⟨S, hS⟩ : ∃ S, strV key n l.length = S := ⟨_, rfl⟩
 have HSV := Aside0.mk hS
 have HSL : Aside0 (S.length = l.length) := ⟨by rw [← hS]; exact (strV_ok hk n _).1⟩
 clear hk hs hc hl hr hA hS
 go_enter Tryz.func36, Tryz.ntmps36
 go_wp2_with (first
  | (go_at_call 52; (with_reducible refine (cipher_calls gs gc _ HS.out).mono ?_); rintro e w_ ⟨rfl, hw_⟩; have hw1_ := hw_.symm; clear hw_; subst hw1_)
  | (go_at_call 53; (with_reducible refine (at_calls gs gc key HK.out n l.length HL.out _ HS.out HC.out).mono ?_); rintro e w2 ⟨v, rfl, hv, hc, hf⟩; rw [HSV.out] at hv; have HW2 := Aside0.mk hv; have HC2 := Aside0.mk hc; have HF2 := Aside0.mk hf; clear hv hc hf))
 all_goals (try (exfalso; omega))
 go_loopg [33] (l.length + 1) (fun kq v33 w' => ∃ i : Nat, v33 = .int .i64 (i : Int) ∧ Aside0 (kq = l.length + 1 - i ∧ i ≤ l.length) ∧ Aside0 (WRow w.heap.size w' v (hN S l i)) ∧ Aside0 (CipK w' gc key ∧ Fr w w' (fun k => k = gc)))
 case atStart => exact ⟨0, by first | rfl | simp, ⟨by omega⟩, ⟨by rw [hN_zero S l HSL.out]; exact HW2.out⟩, ⟨HC2.out, HF2.out⟩⟩
 case round =>
  obtain ⟨i, rfl, HKi, HWi, HCi⟩ := hrel
  clear HW2 HC2 HF2
  by_cases c1 : (i : Int) < (l.length : Int)
  ·have c1b : decide ((i : Int) < (l.length : Int)) = true := decide_eq_true c1
   have c1c : decide (i < l.length) = true := decide_eq_true (by omega)
   have HI : Aside0 (i < l.length) := ⟨by omega⟩
   have h0 : (0 : Int) ≤ (i : Int) := by omega
   have h0t := eq_true h0
   have h1t := eq_true c1
   obtain ⟨ad, e1, hx⟩ := Kd.at_int (C_fr HR.out HCi.out.2 HA.out) (i : Int) h0 c1
   cases e1
   rw [Int.toNat_natCast] at hx
   obtain ⟨x, hxx⟩ : ∃ x, rd l (i : Int) = x := ⟨_, rfl⟩
   rw [hxx] at hx
   have HX : Aside0 (l.getD i 0 = x) := ⟨by rw [← hxx]; unfold rd; rw [Int.toNat_natCast]⟩
   clear hxx
   obtain ⟨g, c1_, tail, hv, hlo, hcc, hmx, hg⟩ := HWi.out.row (i := i) (by rw [hN_len]; exact HI.out)
   rw [hN_len] at hv hcc hmx
   have HV : Aside0 (w.heap.size ≤ g ∧ l.length ≤ c1_ ∧ l.length ≤ maxLen) := ⟨hlo, hcc, hmx⟩
   subst hv
   obtain ⟨y, hy⟩ : ∃ y, S.getD i 0 = y := ⟨_, rfl⟩
   have hcell : wr.cell? ⟨g, i, none⟩ = some (.int .u8 y) := by
    rw [blk_cell hg i, List.getElem?_toArray, List.getElem?_append_left (by rw [List.length_map, hN_len]; exact HI.out), List.getElem?_map, ← hy, ← hN_at S l i HI.out, List.getD_eq_getElem?_getD, List.getElem?_eq_getElem (by rw [hN_len]; exact HI.out)]
    rfl
   have hfz := blk_frozen hg i
   have HY := Aside0.mk hy
   have HGG := Aside0.mk hg
   clear hy hg hlo hcc hmx c1
   go_wp2
   go_roundg (gk - 1)
   case measure => have := HKi.out; have := HI.out; omega
   case rel =>
    refine ⟨i + 1, ?_, ⟨by have := HKi.out; have := HI.out; omega⟩, ⟨?_⟩, ⟨HCi.out.1.fr ((Fr.refl wr (fun k => k = g)).setCell (p := ⟨g, i, none⟩) (.inl rfl) _) (by have := HG.out; have := HV.out; show ¬ gc = g; omega), HCi.out.2.setCell (p := ⟨g, i, none⟩) (.inr HV.out.1) _⟩⟩
    ·have := HI.out
     have := HL.out
     first
     | rfl
     | (congr 1; unfold wrap64; omega)
     | (congr 1; done)
    ·refine .inr ⟨g, c1_, tail, by rw [hN_len], HV.out.1, by rw [hN_len]; exact HV.out.2.1, by rw [hN_len]; exact HV.out.2.2, ?_⟩
     have h := blk_set HGG.out i (.int .u8 (x8 y x))
     rw [List.setIfInBounds_toArray, List.set_append_left _ _ (by rw [List.length_map, hN_len]; exact HI.out), ← List.map_set, ← HY.out, ← HX.out, hN_set] at h
     rw [HY.out, HX.out] at h
     exact h
  ·have hi : i = l.length := by have := HKi.out; omega
   have c1b : decide ((i : Int) < (l.length : Int)) = false := decide_eq_false c1
   have c1c : decide (i < l.length) = false := decide_eq_false (by omega)
   clear c1
   have hw := HWi.out
   rw [hi, ← HSV.out, hN_all] at hw
   have HW := Aside0.mk hw
   clear hw hi
   go_wp2
   go_ret2
   exact ⟨_, rfl, HW.out.byt, HCi.out.1, HCi.out.2⟩
end Go.Proofs.YteadamkkbgnpeaaGreat.A
end OfA10
section OfM1
set_option linter.unusedVariables false
set_option linter.unusedSimpArgs false
namespace Go.Proofs.YteadamkkbgnpeaaGreat.M
open Go.RowKit YteadamkkbgnpeaaGreatW.PrintLast A B S QTC YteadamkkbgnpeaaGreatW.PrintWords YteadamkkbgnpeaaGreatW.PrintMore
set_option maxHeartbeats 4000000 in
set_option maxRecDepth 100000 in
theorem clone_calls (l : List Int) (A : Option Addr) (c : Nat) (w : World) (hr : (Kd.int .u8).C w A l.length l) (hc : l.length ≤ c) (hl : l.length ≤ 100000) :
  Calls Tryz.prog 29 #[.slice A l.length c] w fun e w' => ∃ v, e = .returned v ∧ (Kd.int .u8).R 5 w' w.heap.size (fun _ => True) v l ∧ Below w.heap.size w w' := by
 have HC := Aside0.mk hr
 have HL := Aside0.mk (show l.length ≤ c ∧ l.length ≤ 100000 from ⟨hc, hl⟩)
 clear hr hc hl
 go_enter Tryz.func29, Tryz.ntmps29
 cases A with
 | none =>
  have hl0 : l = [] := by
   rcases Nat.eq_zero_or_pos l.length with h | h
   ·exact List.eq_nil_of_length_eq_zero h
   ·obtain ⟨ad, e, _⟩ := HC.out.2.2 h; cases e
  have HL0 := Aside0.mk hl0
  clear hl0
  have E : ∀ W, (Go.binOp .eql 22 (.slice none l.length c) (.slice none 0 0)).run Tryz.prog W = .ok (.bool true) W := fun W => Lib.run_eql_slice_nil_nil W _ _ Tryz.underlying22
  go_wp2
  go_ret
  exact ⟨_, rfl, by rw [HL0.out]; exact Kd.R_nil _ _ _ _ _, Below.refl _ _⟩
 | some ad =>
  have E : ∀ W, (Go.binOp .eql 22 (.slice (some ad) l.length c) (.slice none 0 0)).run Tryz.prog W = .ok (.bool false) W := fun W => Lib.run_eql_slice_some_nil W _ _ _ Tryz.underlying22
  go_wp2_with (first
   | ((with_reducible refine gate_dst (N := 5) rfl ?_); refine new_v (v := fun b => .slice (some ⟨b, 0, none⟩) 0 0) (cells := #[]) (e := 5) rfl ?hr ?_; (case hr => go_simp); intro b1 hg w1 hb hw; have HB1 := Aside0.mk hw; have HE1 : Aside0 ((Kd.int .u8).R 5 w1 w.heap.size (fun _ => True) (.slice (some ⟨b1, 0, none⟩) 0 0) []) := ⟨R_empty hb (by rw [hg]; exact Nat.le_refl _)⟩; clear hb hw hg)
   | ((with_reducible refine gate_builtin (b := .append) (xs := #[.tmp 5, .tmp 6]) rfl ?_); at_builtin; refine Kd.R_append_rows (Kd.int .u8) (w0 := w) w.heap.size rfl (.tmp 5) (.tmp 6) 22 5 (.int .u8 0) 1 rfl Tryz.underlying22 infoB5 rfl (by decide) (by decide) _ [] l (some ad) l.length c (fun _ => True) (fun _ => False) rfl rfl HE1.out (Kd.C_below HC.out HB1.out) (fun _ _ h => h) (fun _ hk => hk.elim) (fun _ _ => trivial) HB1.out HB1.out.size (by have := HL.out; simp; omega) ?_; intro v2 w2 ho hb hg hat; have HB2 := Aside0.mk hb; have HR2 : Aside0 ((Kd.int .u8).R 5 w2 w.heap.size (fun _ => True) v2 l) := ⟨ho⟩; clear ho hb hg hat))
  go_ret
  exact ⟨_, rfl, HR2.out, HB2.out⟩
theorem Row8_empty {W : World} {base b cap : Nat} {cur : Array Value} (h : W.heap[b]? = some (.cells cur 5 (0, 0))) (hb : base ≤ b) (hc : cap ≤ maxLen) (hs : cur.size = cap) : (Kd.int .u8).R 5 W base (fun _ => True) (.slice (some ⟨b, 0, none⟩) 0 cap) [] :=
 Kd.R_of_own ⟨rfl, .inr ⟨b, cap, cur, rfl, hb, h, Nat.zero_le _, hc, by rw [hs, Nat.mul_one], rfl⟩⟩ (fun _ _ => trivial)
set_option maxHeartbeats 4000000 in
set_option maxRecDepth 100000 in
theorem grow_calls (n : Nat) (hn : n ≤ 100000) (w : World) :
  Calls Tryz.prog 66 #[.slice none 0 0, .int .i64 (n : Int)] w fun e w' => ∃ v, e = .returned v ∧ (Kd.int .u8).R 5 w' w.heap.size (fun _ => True) v [] ∧ Below w.heap.size w w' := by
 have HN := Aside0.mk hn
 clear hn
 have hpos : (0:Int) ≤ n := Int.natCast_nonneg n
 have hle : (n:Int) ≤ 100000 := by have := HN.out; omega
 go_enter Tryz.func66, Tryz.ntmps66
 go_wp2_with (first
  | ((with_reducible refine gate_builtin (b := .append) (xs := #[.tmp 20, .tmp 21]) rfl ?_); at_builtin; (obtain ⟨i0, hi0, hz0⟩ := Option.map_eq_some_iff.1 infoB5); simp only [Prod.mk.injEq] at hz0; refine Lib.wpList_append_run _ rfl (.tmp 20) (.tmp 21) 22 3 rfl (.slice none 0 0) (.int .i64 (n:Int)) rfl rfl _ _ (Lib.run_append_nil_zeros _ 22 3 22 5 i0 _ .i64 .i64 Tryz.underlying22 Tryz.underlying3 hi0 hz0.1 n ?h0 (by rw [hz0.2.1]; decide) ?h63 (by rw [hz0.2.2]; have := HN.out; omega)) ?_; (case h0 => omega); (case h63 => omega); (have HZ := Aside0.mk hz0); clear hz0 hi0)
  )
 ·go_ret
  refine ⟨_, rfl, Row8_empty (blk_new w _) (Nat.le_refl _) (grownCap_le_maxLen w n 0 5 (by have := HN.out; simp only [maxLen]; omega)) ?_, below_drew (below_alloc (Below.refl _ _) _)⟩
  have := grownCap_ge w n 0 5
  simp [Builtin.zeroCells]
  omega
 ·go_ret
  exact ⟨_, rfl, Kd.R_nil _ _ _ _ _, Below.refl _ _⟩
/-- Parts in memory: the cells of block b0 are the slices of ls. -/
def PartsAt (w : World) (b0 : Nat) (ls : List (List Int)) : Prop :=
 ∀ i, i < ls.length → ∃ A c, w.cell? ⟨b0, i, none⟩ = some (.slice A (ls.getD i []).length c) ∧ (ls.getD i []).length ≤ c ∧ (Kd.int .u8).C w A (ls.getD i []).length (ls.getD i [])
theorem PartsAt.below {w w1 : World} {b0 : Nat} {ls : List (List Int)} (h : PartsAt w b0 ls) (k : Below w.heap.size w w1) : PartsAt w1 b0 ls := fun i hi => by
 obtain ⟨A, c, h1, h2, h3⟩ := h i hi
 exact ⟨A, c, pw_cell_below k h1, h2, Kd.C_below h3 k⟩
theorem flat_step (ls : List (List Int)) (i : Nat) (h : i < ls.length) : (ls.take (i + 1)).flatten = (ls.take i).flatten ++ ls.getD i [] := by
 rw [List.take_succ_eq_append_getElem h, List.flatten_append, List.getD_eq_getElem?_getD, List.getElem?_eq_getElem h]
 simp
theorem flat_le (ls : List (List Int)) (i : Nat) : (ls.take i).flatten.length ≤ ls.flatten.length := by
 conv => rhs; rw [← List.take_append_drop i ls, List.flatten_append, List.length_append]
 omega
set_option maxHeartbeats 8000000 in
set_option maxRecDepth 100000 in
theorem concat_calls (b0 : Nat) (ls : List (List Int)) (c0 : Nat) (w : World) (hp : PartsAt w b0 ls) (hn : ls.length ≤ 1000) (hl : ls.flatten.length ≤ 100000) :
  Calls Tryz.prog 55 #[.slice (some ⟨b0, 0, none⟩) ls.length c0] w fun e w' => ∃ v, e = .returned v ∧ (Kd.int .u8).R 5 w' w.heap.size (fun _ => True) v ls.flatten ∧ Below w.heap.size w w' := by
 have HP := Aside0.mk hp
 have HL := Aside0.mk (show ls.length ≤ 1000 ∧ ls.flatten.length ≤ 100000 from ⟨hn, hl⟩)
 clear hp hn hl
 go_enter Tryz.func55, Tryz.ntmps55
 go_wp2
 go_loopg [3, 11] (ls.length + 1) (fun kq v3 v11 w' => ∃ i : Nat, v3 = .int .i64 (((ls.take i).flatten.length : Nat) : Int) ∧ v11 = .int .i64 (i : Int) ∧ w' = w ∧ Aside0 (kq = ls.length + 1 - i ∧ i ≤ ls.length))
 case atStart => exact ⟨0, by first | rfl | simp, by first | rfl | simp, rfl, ⟨by omega⟩⟩
 case round =>
  obtain ⟨i, rfl, rfl, hw, HK⟩ := hrel
  have hw' := hw.symm
  clear hw
  subst hw'
  by_cases c1 : i < ls.length
  ·have c1b : decide ((i : Int) < (ls.length : Int)) = true := decide_eq_true (by omega)
   have c1c : decide (i < ls.length) = true := decide_eq_true c1
   have HI := Aside0.mk c1
   have h0t := eq_true (show (0 : Int) ≤ (i : Int) by omega)
   have h1t := eq_true (show (i : Int) < (ls.length : Int) by omega)
   obtain ⟨A, c, hcell, hcc, hC⟩ := HP.out i c1
   obtain ⟨T, hT⟩ : ∃ T, (ls.take i).flatten.length = T := ⟨_, rfl⟩
   obtain ⟨N, hN⟩ : ∃ N, (ls.getD i []).length = N := ⟨_, rfl⟩
   have hS : (ls.take (i + 1)).flatten.length = T + N := by rw [flat_step ls i c1, List.length_append, hT, hN]
   have hS2 := flat_le ls (i + 1)
   rw [hN] at hcell
   rw [hT]
   have eT : wrap64 ((T : Int) + (N : Int)) = ((T + N : Nat) : Int) := by have := HL.out; unfold wrap64; omega
   have c2 : decide ((((T + N : Nat) : Int)) < 0) = false := decide_eq_false (by omega)
   have c3 : decide (((T : Int) + (N : Int)) < 0) = false := decide_eq_false (by omega)
   have hb1 : (T : Int) + (N : Int) ≤ 100000 := by have := HL.out; omega
   have HS := Aside0.mk hS
   clear hC hcc hT hN hS hS2 c1
   go_wp2
   all_goals (try (exfalso; omega))
   go_roundg (gk - 1)
   case measure => have := HK.out; have := HI.out; omega
   case rel =>
    refine ⟨i + 1, ?_, ?_, rfl, ⟨by have := HK.out; have := HI.out; omega⟩⟩
    ·rw [HS.out]
     first
     | rfl
     | (congr 1; unfold wrap64; omega)
    ·have := HK.out
     have := HI.out
     have := HL.out
     first
     | rfl
     | (congr 1; unfold wrap64; omega)
     | (congr 1; done)
  ·have hi : i = ls.length := by have := HK.out; omega
   have c1b : decide ((i : Int) < (ls.length : Int)) = false := decide_eq_false (by omega)
   have c1c : decide (i < ls.length) = false := decide_eq_false c1
   subst hi
   rw [List.take_length]
   obtain ⟨T, hT⟩ : ∃ T, ls.flatten.length = T := ⟨_, rfl⟩
   have HT : Aside0 (T ≤ 100000) := ⟨by rw [← hT]; exact HL.out.2⟩
   rw [hT]
   clear c1 HK hT
   go_wp2_with (first
    | (go_at_call 66; (with_reducible refine (grow_calls T HT.out _).mono ?_); rintro e w1 ⟨v1, rfl, hr, hb⟩; have HR := Aside0.mk hr; have HW := Aside0.mk hb; clear hr hb))
   go_loopg [6, 27] (ls.length + 1) (fun kq v6 v27 w' => ∃ i : Nat, v27 = .int .i64 (i : Int) ∧ Aside0 (Below w.heap.size w w') ∧ Aside0 (kq = ls.length + 1 - i ∧ i ≤ ls.length) ∧ Aside0 ((Kd.int .u8).R 5 w' w.heap.size (fun _ => True) v6 (ls.take i).flatten))
   case atStart => exact ⟨0, by first | rfl | simp, HW, ⟨by omega⟩, HR⟩
   case round =>
    obtain ⟨i, rfl, HB2, HK, HR2⟩ := hrel
    clear HR HW
    by_cases c1 : i < ls.length
    ·have c1b : decide ((i : Int) < (ls.length : Int)) = true := decide_eq_true (by omega)
     have c1c : decide (i < ls.length) = true := decide_eq_true c1
     have HI := Aside0.mk c1
     have h0t := eq_true (show (0 : Int) ≤ (i : Int) by omega)
     have h1t := eq_true (show (i : Int) < (ls.length : Int) by omega)
     obtain ⟨A, c, hcell, hcc, hC⟩ := (HP.out.below HB2.out) i c1
     have HC := Aside0.mk hC
     clear hC hcc c1
     go_wp2_with (first
      | ((with_reducible refine gate_builtin (b := .append) (xs := #[.tmp 31, .tmp 32]) rfl ?_); at_builtin; refine Kd.R_append_rows (Kd.int .u8) (w0 := w) w.heap.size rfl (.tmp 31) (.tmp 32) 22 5 (.int .u8 0) 1 rfl Tryz.underlying22 infoB5 rfl (by decide) (by decide) _ (ls.take i).flatten (ls.getD i []) A (ls.getD i []).length c (fun _ => True) (fun _ => False) rfl rfl HR2.out HC.out (fun _ _ h => h) (fun _ hk => hk.elim) (fun _ _ => trivial) HB2.out HB2.out.size (by have := HL.out; have := flat_le ls (i + 1); rw [flat_step ls i HI.out, List.length_append] at this; omega) ?_; intro v2 w2 ho hb hg hat; have HB3 := Aside0.mk hb; have HR3 : Aside0 ((Kd.int .u8).R 5 w2 w.heap.size (fun _ => True) v2 (ls.take (i + 1)).flatten) := ⟨by rw [flat_step ls i HI.out]; exact ho⟩; clear ho hb hg hat))
     go_roundg (gk - 1)
     case measure => have := HK.out; have := HI.out; omega
     case rel =>
      refine ⟨i + 1, ?_, HB3, ⟨by have := HK.out; have := HI.out; omega⟩, HR3⟩
      have := HK.out
      have := HI.out
      have := HL.out
      first
      | rfl
      | (congr 1; unfold wrap64; omega)
      | (congr 1; done)
    ·have hi : i = ls.length := by have := HK.out; omega
     have c1b : decide ((i : Int) < (ls.length : Int)) = false := decide_eq_false (by omega)
     have c1c : decide (i < ls.length) = false := decide_eq_false c1
     subst hi
     rw [List.take_length] at HR2
     clear c1
     go_wp2
     go_ret
     exact ⟨_, rfl, HR2.out, HB2.out⟩
end Go.Proofs.YteadamkkbgnpeaaGreat.M
end OfM1
