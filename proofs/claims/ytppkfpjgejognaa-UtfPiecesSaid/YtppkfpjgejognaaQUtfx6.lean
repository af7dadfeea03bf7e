-- WRITTEN BY A PROGRAM OF THIS SESSION (out of Lean's own print of the translated functions)
import Derived.Test.YtppkfpjgejognaaQUtfx0
import Derived.Test.YtppkfpjgejognaaQUtfx1
import Derived.Test.YtppkfpjgejognaaQUtfx2
import Derived.Test.YtppkfpjgejognaaQUtfx3
import Derived.Test.YtppkfpjgejognaaQUtfx4
namespace Go.Proofs.Ytppkfpjgejognaa.QUtf
open Go.RowKit Go.Proofs.YtppkfpjgejognaaW.PrintWords Go.Proofs.YtppkfpjgejognaaW.PrintLast Go.Proofs.YtppkfpjgejognaaW.PrintMore
attribute [local go_sem] max2_int min2_int max_two min_two max_three min_three max_four min_four   -- for this text's walks alone
set_option linter.unusedVariables false
set_option linter.unusedSimpArgs false

/-! ### longlinelaw13_UtfPieces: function 4 -/
mutual
def longlinelaw13_UtfPieces.j0 : Nat → List Int → List Int → Bool → Option (Bool)
  | 0, _, _, _ => none
  | k + 1, x0, x1, x23 => if x23 = true then ((longlinelaw13_alive.f k).bind fun t331 => (some t331)) else ((utf_New.f).bind fun bt332 => (longlinelaw13_UtfPieces.l0 k x0 x1 ([] : List Int) x0 0 bt332.1 bt332.2.1 bt332.2.2.1 bt332.2.2.2.1 bt332.2.2.2.2.1 bt332.2.2.2.2.2))
def longlinelaw13_UtfPieces.l0 : Nat → List Int → List Int → List Int → List Int → Int → Bool → Int → Int → Int → Int → Int → Option (Bool)
  | 0, _, _, _, _, _, _, _, _, _, _, _ => none
  | k + 1, x0, x1, x6, x7, x8, x339000, x339001, x339002, x339003, x339004, x339005 => if x8 < (x1.length : Int) then (longlinelaw13_UtfPieces.j2 k x0 x1 x6 x7 x8 (decide ((x7.length : Int) > 0)) x339000 x339001 x339002 x339003 x339004 x339005) else (longlinelaw13_UtfPieces.j2 k x0 x1 x6 x7 x8 false x339000 x339001 x339002 x339003 x339004 x339005)
def longlinelaw13_UtfPieces.j2 : Nat → List Int → List Int → List Int → List Int → Int → Bool → Bool → Int → Int → Int → Int → Int → Option (Bool)
  | 0, _, _, _, _, _, _, _, _, _, _, _, _ => none
  | k + 1, x0, x1, x6, x7, x8, x35, x339000, x339001, x339002, x339003, x339004, x339005 => if x35 = true then (if 0 ≤ x8 then (if x8 < (x1.length : Int) then (if (wrap64 (Go.bits .and .u8 (rd x1 x8) 3)) > (x7.length : Int) then (if 0 ≤ (x7.length : Int) then (if (x7.length : Int) ≤ (x7.length : Int) then ((utf_Reader_Read.f k x339000 x339001 x339002 x339003 x339004 x339005 (x7.take ((x7.length : Int) : Int).toNat)).bind fun bt345 => (if bt345.2.1 = 0 then (if x6.length + bt345.1.length < 35184372088832 then (longlinelaw13_UtfPieces.l0 k x0 x1 (x6 ++ bt345.1) (x7.drop ((x7.length : Int) : Int).toNat) (wrap64 (x8 + 1)) bt345.2.2.1 bt345.2.2.2.1 bt345.2.2.2.2.1 bt345.2.2.2.2.2.1 bt345.2.2.2.2.2.2.1 bt345.2.2.2.2.2.2.2) else (none)) else (some false))) else (none)) else (none)) else (if 0 ≤ (wrap64 (Go.bits .and .u8 (rd x1 x8) 3)) then (if (wrap64 (Go.bits .and .u8 (rd x1 x8) 3)) ≤ (x7.length : Int) then ((utf_Reader_Read.f k x339000 x339001 x339002 x339003 x339004 x339005 (x7.take ((wrap64 (Go.bits .and .u8 (rd x1 x8) 3)) : Int).toNat)).bind fun bt368 => (if bt368.2.1 = 0 then (if x6.length + bt368.1.length < 35184372088832 then (longlinelaw13_UtfPieces.l0 k x0 x1 (x6 ++ bt368.1) (x7.drop ((wrap64 (Go.bits .and .u8 (rd x1 x8) 3)) : Int).toNat) (wrap64 (x8 + 1)) bt368.2.2.1 bt368.2.2.2.1 bt368.2.2.2.2.1 bt368.2.2.2.2.2.1 bt368.2.2.2.2.2.2.1 bt368.2.2.2.2.2.2.2) else (none)) else (some false))) else (none)) else (none))) else (none)) else (none)) else ((utf_Reader_Read.f k x339000 x339001 x339002 x339003 x339004 x339005 x7).bind fun bt386 => ((utf_Reader_End.f bt386.2.2.1 bt386.2.2.2.1 bt386.2.2.2.2.1 bt386.2.2.2.2.2.1 bt386.2.2.2.2.2.2.1 bt386.2.2.2.2.2.2.2).bind fun bt396 => (if x6.length + bt386.1.length < 35184372088832 then ((some (x6 ++ bt386.1 : List Int)).bind fun y406 => (if y406.length + bt396.1.length < 35184372088832 then ((longlinelaw13_alive.f k).bind fun t412 => (if t412 = true then (if bt386.2.1 = 0 then (if bt396.2.1 = 0 then ((utf_Points.f k x0).bind fun t413 => ((longlinelaw13_same.f k (y406 ++ bt396.1) t413).bind fun t416 => (if t416 = true then ((utf_Reader_Waits.f bt396.2.2.1 bt396.2.2.2.1 bt396.2.2.2.2.1 bt396.2.2.2.2.2.1 bt396.2.2.2.2.2.2.1 bt396.2.2.2.2.2.2.2).bind fun bt417 => (some (bt417.1 == 0))) else (some false)))) else (some false)) else (some false)) else (some false))) else (none))) else (none))))
end
def longlinelaw13_UtfPieces.f (k : Nat) (l0 : List Int) (l1 : List Int) : Option (Bool) := if (l0.length : Int) > 2000 then (longlinelaw13_UtfPieces.j0 k l0 l1 true) else (longlinelaw13_UtfPieces.j0 k l0 l1 (decide ((l1.length : Int) > 300)))
theorem longlinelaw13_UtfPieces.mono_l : ∀ k, (∀ y0 y1 y2, LeO (longlinelaw13_UtfPieces.j0 k y0 y1 y2) (longlinelaw13_UtfPieces.j0 (k + 1) y0 y1 y2)) ∧ (∀ y0 y1 y2 y3 y4 y5 y6 y7 y8 y9 y10, LeO (longlinelaw13_UtfPieces.l0 k y0 y1 y2 y3 y4 y5 y6 y7 y8 y9 y10) (longlinelaw13_UtfPieces.l0 (k + 1) y0 y1 y2 y3 y4 y5 y6 y7 y8 y9 y10)) ∧ (∀ y0 y1 y2 y3 y4 y5 y6 y7 y8 y9 y10 y11, LeO (longlinelaw13_UtfPieces.j2 k y0 y1 y2 y3 y4 y5 y6 y7 y8 y9 y10 y11) (longlinelaw13_UtfPieces.j2 (k + 1) y0 y1 y2 y3 y4 y5 y6 y7 y8 y9 y10 y11))
  | 0 => ⟨fun _ _ _ r h => by simp [longlinelaw13_UtfPieces.j0] at h, fun _ _ _ _ _ _ _ _ _ _ _ r h => by simp [longlinelaw13_UtfPieces.l0] at h, fun _ _ _ _ _ _ _ _ _ _ _ _ r h => by simp [longlinelaw13_UtfPieces.j2] at h⟩
  | k + 1 => by
    obtain ⟨ih0, ih1, ih2⟩ := longlinelaw13_UtfPieces.mono_l k
    refine ⟨?_, ?_, ?_⟩
    · intro y0 y1 y2
      unfold longlinelaw13_UtfPieces.j0
      repeat' first
      | (with_reducible exact ih0 _ _ _)
      | (with_reducible exact ih1 _ _ _ _ _ _ _ _ _ _ _)
      | (with_reducible exact ih2 _ _ _ _ _ _ _ _ _ _ _ _)
      | (with_reducible exact longlinelaw13_alive.mono _)
      | (with_reducible exact longlinelaw13_same.mono _ _ _)
      | (with_reducible exact utf_Points.mono _ _)
      | (with_reducible exact utf_Reader_Read.mono _ _ _ _ _ _ _ _)
      | (with_reducible exact LeO.refl _)
      | (with_reducible exact LeO.none _)
      | (with_reducible refine LeO.ite ?_ ?_)
      | (with_reducible refine LeO.bind ?_ (fun _ => ?_))
      | exact ih0 _ _ _
      | exact ih1 _ _ _ _ _ _ _ _ _ _ _
      | exact ih2 _ _ _ _ _ _ _ _ _ _ _ _
      | exact longlinelaw13_alive.mono _
      | exact longlinelaw13_same.mono _ _ _
      | exact utf_Points.mono _ _
      | exact utf_Reader_Read.mono _ _ _ _ _ _ _ _
      | exact LeO.none _
      | refine LeO.ite ?_ ?_
      | refine LeO.bind ?_ (fun _ => ?_)
    · intro y0 y1 y2 y3 y4 y5 y6 y7 y8 y9 y10
      unfold longlinelaw13_UtfPieces.l0
      repeat' first
      | (with_reducible exact ih0 _ _ _)
      | (with_reducible exact ih1 _ _ _ _ _ _ _ _ _ _ _)
      | (with_reducible exact ih2 _ _ _ _ _ _ _ _ _ _ _ _)
      | (with_reducible exact longlinelaw13_alive.mono _)
      | (with_reducible exact longlinelaw13_same.mono _ _ _)
      | (with_reducible exact utf_Points.mono _ _)
      | (with_reducible exact utf_Reader_Read.mono _ _ _ _ _ _ _ _)
      | (with_reducible exact LeO.refl _)
      | (with_reducible exact LeO.none _)
      | (with_reducible refine LeO.ite ?_ ?_)
      | (with_reducible refine LeO.bind ?_ (fun _ => ?_))
      | exact ih0 _ _ _
      | exact ih1 _ _ _ _ _ _ _ _ _ _ _
      | exact ih2 _ _ _ _ _ _ _ _ _ _ _ _
      | exact longlinelaw13_alive.mono _
      | exact longlinelaw13_same.mono _ _ _
      | exact utf_Points.mono _ _
      | exact utf_Reader_Read.mono _ _ _ _ _ _ _ _
      | exact LeO.none _
      | refine LeO.ite ?_ ?_
      | refine LeO.bind ?_ (fun _ => ?_)
    · intro y0 y1 y2 y3 y4 y5 y6 y7 y8 y9 y10 y11
      unfold longlinelaw13_UtfPieces.j2
      repeat' first
      | (with_reducible exact ih0 _ _ _)
      | (with_reducible exact ih1 _ _ _ _ _ _ _ _ _ _ _)
      | (with_reducible exact ih2 _ _ _ _ _ _ _ _ _ _ _ _)
      | (with_reducible exact longlinelaw13_alive.mono _)
      | (with_reducible exact longlinelaw13_same.mono _ _ _)
      | (with_reducible exact utf_Points.mono _ _)
      | (with_reducible exact utf_Reader_Read.mono _ _ _ _ _ _ _ _)
      | (with_reducible exact LeO.refl _)
      | (with_reducible exact LeO.none _)
      | (with_reducible refine LeO.ite ?_ ?_)
      | (with_reducible refine LeO.bind ?_ (fun _ => ?_))
      | exact ih0 _ _ _
      | exact ih1 _ _ _ _ _ _ _ _ _ _ _
      | exact ih2 _ _ _ _ _ _ _ _ _ _ _ _
      | exact longlinelaw13_alive.mono _
      | exact longlinelaw13_same.mono _ _ _
      | exact utf_Points.mono _ _
      | exact utf_Reader_Read.mono _ _ _ _ _ _ _ _
      | exact LeO.none _
      | refine LeO.ite ?_ ?_
      | refine LeO.bind ?_ (fun _ => ?_)
theorem longlinelaw13_UtfPieces.mono : ∀ a0 a1 k, LeO (longlinelaw13_UtfPieces.f k a0 a1) (longlinelaw13_UtfPieces.f (k + 1) a0 a1) := by
  intro a0 a1 k
  obtain ⟨ih0, ih1, ih2⟩ := longlinelaw13_UtfPieces.mono_l k
  unfold longlinelaw13_UtfPieces.f
  repeat' first
      | (with_reducible exact ih0 _ _ _)
      | (with_reducible exact ih1 _ _ _ _ _ _ _ _ _ _ _)
      | (with_reducible exact ih2 _ _ _ _ _ _ _ _ _ _ _ _)
      | (with_reducible exact longlinelaw13_alive.mono _)
      | (with_reducible exact longlinelaw13_same.mono _ _ _)
      | (with_reducible exact utf_Points.mono _ _)
      | (with_reducible exact utf_Reader_Read.mono _ _ _ _ _ _ _ _)
      | (with_reducible exact LeO.refl _)
      | (with_reducible exact LeO.none _)
      | (with_reducible refine LeO.ite ?_ ?_)
      | (with_reducible refine LeO.bind ?_ (fun _ => ?_))
      | exact ih0 _ _ _
      | exact ih1 _ _ _ _ _ _ _ _ _ _ _
      | exact ih2 _ _ _ _ _ _ _ _ _ _ _ _
      | exact longlinelaw13_alive.mono _
      | exact longlinelaw13_same.mono _ _ _
      | exact utf_Points.mono _ _
      | exact utf_Reader_Read.mono _ _ _ _ _ _ _ _
      | exact LeO.none _
      | refine LeO.ite ?_ ?_
      | refine LeO.bind ?_ (fun _ => ?_)
set_option maxHeartbeats 8000000 in
set_option maxRecDepth 100000 in
theorem longlinelaw13_UtfPieces.calls (k : Nat) (P0_ : Nat → Prop) (A0 : Option Addr) (c0 : Nat) (l0 : List Int) (A1 : Option Addr) (c1 : Nat) (l1 : List Int) (r : Bool) (w : World) (hT : r = true) (hs0 : Kd.V (Kd.int .u8) 5 w w.heap.size (fun k_ => P0_ k_) (.slice A0 l0.length c0) l0) (hr1 : Kd.C (Kd.int .u8) w A1 l1.length l1) (hc1 : l1.length ≤ c1) (h : longlinelaw13_UtfPieces.f k l0 l1 = some r) :
    Calls Try.prog 4 #[.slice A0 l0.length c0, .slice A1 l1.length c1] w fun e w' => e = .returned (.bool r) ∧ Below w.heap.size w w' := by
  have HO0 := Aside0.mk (show Kd.V (Kd.int .u8) 5 w w.heap.size (fun k_ => (P0_ k_ ∨ w.heap.size ≤ k_)) (.slice A0 l0.length c0) l0 from Kd.V_mono hs0 (fun k_ hk => .inl hk))
  have HR1 := Aside0.mk hr1
  have HC1 := Aside0.mk hc1
  clear hr1 hc1
  have HB := Aside0.mk (Below.refl w.heap.size w)
  have HT0_ := Aside0.mk hT
  clear hT
  have H : (if (l0.length : Int) > 2000 then (longlinelaw13_UtfPieces.j0 k l0 l1 true) else (longlinelaw13_UtfPieces.j0 k l0 l1 (decide ((l1.length : Int) > 300)))) = some r := h
  clear h
  have HC3 := Aside0.mk H
  clear H
  go_enter Try.func4, Try.ntmps4
  go_upto_region 1 with (fail)
  go_cut [23] (fun v23 wc => ∃ (kq : Nat) (x23_2 : Bool), v23 = .bool x23_2 ∧ Aside0 (longlinelaw13_UtfPieces.j0 kq l0 l1 x23_2 = some r) ∧ Aside0 (kq ≤ k) ∧ Aside0 (Kd.V (Kd.int .u8) 5 wc w.heap.size (fun k_ => (P0_ k_ ∨ w.heap.size ≤ k_)) (.slice A0 l0.length c0) l0) ∧ Aside0 (Below w.heap.size w wc))
  case first =>
    have H := HC3.out
    clear HC3
    by_cases c4 : (l0.length : Int) > 2000
    · rw [if_pos c4] at H
      have c4b0 : decide (2000 < (l0.length : Int)) = true := decide_eq_true c4
      have c4b1 : decide (2000 < l0.length) = true := decide_eq_true (by omega)
      clear c4
      (first | rw [c4b0] | (simp only [i64_w, i32_w]; rw [c4b0]) | skip)
      have H' := Aside0.mk H
      clear H
      go_wp2
      go_meet
      case rel => exact ⟨_, (true), (by first | rfl | (simp; done) | (simp [*]; done)), H', ⟨by first | omega | exact Nat.le_refl _⟩, ⟨by (with_reducible repeat (first | apply Kd.V_alloc | apply Kd.V_drewN | apply Kd.V_drew)); exact HO0.out⟩, ⟨by repeat (first | (with_reducible first | exact HB.out | apply below_alloc | apply pw_below_drewN | apply below_drew1) | exact HB.out)⟩⟩
    · rw [if_neg c4] at H
      have c4b0 : decide (2000 < (l0.length : Int)) = false := decide_eq_false c4
      have c4b1 : decide (2000 < l0.length) = false := decide_eq_false (by omega)
      clear c4
      (first | rw [c4b0] | (simp only [i64_w, i32_w]; rw [c4b0]) | skip)
      have H' := Aside0.mk H
      clear H
      go_wp2
      go_meet
      case rel => exact ⟨_, (decide ((l1.length : Int) > 300)), (by first | rfl | (simp; done) | (simp [*]; done)), H', ⟨by first | omega | exact Nat.le_refl _⟩, ⟨by (with_reducible repeat (first | apply Kd.V_alloc | apply Kd.V_drewN | apply Kd.V_drew)); exact HO0.out⟩, ⟨by repeat (first | (with_reducible first | exact HB.out | apply below_alloc | apply pw_below_drewN | apply below_drew1) | exact HB.out)⟩⟩
  case rest =>
    clear HC3
    try clear c1
    try clear p2
    try clear c4
    try clear c4b0
    try clear c4b1
    obtain ⟨kq, x23_2, rfl, HA, HJ2, HO_0, HB⟩ := hcut
    cases kq with
    | zero => exact absurd HA.out (by simp [longlinelaw13_UtfPieces.j0])
    | succ kj2 =>
      have H := HA.out
      clear HA
      simp only [longlinelaw13_UtfPieces.j0] at H
      by_cases c5 : x23_2 = true
      · subst c5
        have H1 : ((longlinelaw13_alive.f kj2).bind fun t331 => (some t331)) = some r := by rw [if_pos rfl] at H; exact H
        clear H
        have H := H1
        clear H1
        replace H := Option.bind_eq_some_iff.mp H
        obtain ⟨t331, A60, H⟩ := H
        replace H : (some t331) = some r := H
        have A6 := Aside0.mk A60
        clear A60
        obtain rfl := Option.some.inj H
        go_wp2_with (first | ((with_reducible refine gate_callee (f := 7) rfl ?_); refine goesL_ (some 24) rfl rfl Try.func7 (by kernel_rfl) rfl #[] rfl (by (try simp only [List.map_toArray, List.map_cons, List.map_nil]); first | done | rfl | (simp only [List.length_drop, List.length_take]; rfl)) ?_; (with_reducible refine (longlinelaw13_alive.calls kj2  t331 _ A6.out).mono ?_); rintro e w7 ⟨rfl, hb⟩; refine ⟨_, rfl, ?_⟩; have n0_ := Aside0.mk (Kd.V_below (by (with_reducible repeat (first | apply Kd.V_alloc | apply Kd.V_drewN | apply Kd.V_drew)); exact HO_0.out) hb); have n1_ := Aside0.mk (below_step (by repeat (first | (with_reducible first | exact HB.out | apply below_alloc | apply pw_below_drewN | apply below_drew1) | exact HB.out)) hb); clear HO_0; clear HB; have HO_0 := n0_; have HB := n1_; clear n0_ n1_; (try clear hb); (try clear hb2); (try clear hk); (try clear hi)))
        go_ret
        exact ⟨by first | rfl | (simp [errW_none, errW_some] <;> rfl) | (simp [*, errW_none, errW_some] <;> rfl), by repeat (first | (with_reducible first | exact HB.out | apply below_alloc | apply pw_below_drewN | apply below_drew1) | exact HB.out)⟩
      · replace c5 := Bool.eq_false_iff.mpr c5
        subst c5
        have H1 : ((utf_New.f).bind fun bt332 => (longlinelaw13_UtfPieces.l0 kj2 l0 l1 ([] : List Int) l0 0 bt332.1 bt332.2.1 bt332.2.2.1 bt332.2.2.2.1 bt332.2.2.2.2.1 bt332.2.2.2.2.2)) = some r := by rw [if_neg (show ¬ (false = true) by decide)] at H; exact H
        clear H
        have H := H1
        clear H1
        replace H := Option.bind_eq_some_iff.mp H
        obtain ⟨⟨t332, t333, t334, t335, t336, t337⟩, A80, H⟩ := H
        replace H : (longlinelaw13_UtfPieces.l0 kj2 l0 l1 ([] : List Int) l0 0 t332 t333 t334 t335 t336 t337) = some r := H
        have A8 := Aside0.mk A80
        clear A80
        have H' := Aside0.mk H
        clear H
        go_wp2_with (first | ((with_reducible refine gate_callee (f := 8) rfl ?_); refine goesL_ (some 25) rfl rfl Try.func8 (by kernel_rfl) rfl #[] rfl (by (try simp only [List.map_toArray, List.map_cons, List.map_nil]); first | done | rfl | (simp only [List.length_drop, List.length_take]; rfl)) ?_; (with_reducible refine (utf_New.calls  t332 t333 t334 t335 t336 t337 w _ ?side1 A8.out).mono ?_); (case side1 => repeat (first | (with_reducible first | exact HB.out | apply below_alloc | apply pw_below_drewN | apply below_drew1) | exact HB.out)); rintro e w9 ⟨g338, rfl, hi, hb, hb2, hgw⟩; refine ⟨_, rfl, ?_⟩; have n0_ := Aside0.mk (Kd.V_below (Kd.V_elderB (by (with_reducible repeat (first | apply Kd.V_alloc | apply Kd.V_drewN | apply Kd.V_drew)); exact HO_0.out) g338 hgw) hb2); have n1_ := Aside0.mk (hb); have n2_ := Aside0.mk (hi); clear HO_0; clear HB; have HO_0 := n0_; have HB := n1_; have HI338 := n2_; clear n0_ n1_ n2_; (try clear hb); (try clear hb2); (try clear hk); (try clear hi)))
        go_loopg [6, 7, 8] kj2 (fun kq v6 v7 v8 w' => ∃ (x6_2 : List Int) (x7_2 : List Int) (x8_2 : Int) (x339000_2 : Bool) (x339001_2 : Int) (x339002_2 : Int) (x339003_2 : Int) (x339004_2 : Int) (x339005_2 : Int), v8 = .int .i64 x8_2 ∧ Aside0 (longlinelaw13_UtfPieces.l0 kq l0 l1 x6_2 x7_2 x8_2 x339000_2 x339001_2 x339002_2 x339003_2 x339004_2 x339005_2 = some r) ∧ Aside0 (kq ≤ kj2) ∧ Aside0 (Kd.V (Kd.int .u8) 5 w' w.heap.size (fun k_ => (P0_ k_ ∨ w.heap.size ≤ k_) ∧ some k_ ≠ (v6 : Value).ownBlock ∧ k_ ≠ g338) (.slice A0 l0.length c0) l0) ∧ Aside0 (Kd.R (Kd.int .i32) 21 w' w.heap.size (fun k_ => (w.heap.size ≤ k_)) v6 x6_2) ∧ Aside0 (Kd.V (Kd.int .u8) 5 w' w.heap.size (fun k_ => (P0_ k_ ∨ w.heap.size ≤ k_) ∧ some k_ ≠ (v6 : Value).ownBlock ∧ k_ ≠ g338) v7 x7_2) ∧ Aside0 (IsS35 w w' g338 x339000_2 x339001_2 x339002_2 x339003_2 x339004_2 x339005_2) ∧ Aside0 (Below w.heap.size w w'))
        case atStart => exact ⟨(([] : List Int)), (l0), (0), (t332), (t333), (t334), (t335), (t336), (t337), (by first | rfl | (simp; done) | (simp [*]; done)), H', ⟨Nat.le_refl _⟩, ⟨by (with_reducible repeat (first | apply Kd.V_alloc | apply Kd.V_drewN | apply Kd.V_drew)); exact Kd.V_mono HO_0.out (fun _ hk => ⟨hk.1, ⟨(by simp [Value.ownBlock]), hk.2⟩⟩)⟩, ⟨by first | exact Kd.R_nil _ _ _ _ _ | exact Kd.N_nil _ _ _ _ _ | exact Kd.V_nil _ _ _ _ _ | exact Kd.Q_nil _ _ _ _ _ | exact Kd.S_nil _ _ _ _ _⟩, ⟨by (with_reducible repeat (first | apply Kd.V_alloc | apply Kd.V_drewN | apply Kd.V_drew)); exact Kd.V_mono HO_0.out (fun _ hk => ⟨hk.1, ⟨(by simp [Value.ownBlock]), hk.2⟩⟩)⟩, ⟨by repeat (first | (with_reducible first | exact HI338.out | apply IsS35.alloc | apply IsS35.drewN | apply IsS35.drew | apply IsS35.set_0 | apply IsS35.set_1 | apply IsS35.set_2 | apply IsS35.set_3 | apply IsS35.set_4 | apply IsS35.set_5) | exact HI338.out)⟩, ⟨by repeat (first | (with_reducible first | exact HB.out | apply below_alloc | apply pw_below_drewN | apply below_drew1 | refine below_set ?_ (IsS35.ge HI338.out)) | exact HB.out)⟩⟩
        case round =>
          clear H'
          try clear c1
          try clear p2
          try clear c4
          try clear c4b0
          try clear c4b1
          try clear c5
          try clear c7
          try clear c8
          try clear p2
          obtain ⟨x6_2, x7_2, x8_2, x339000_2, x339001_2, x339002_2, x339003_2, x339004_2, x339005_2, rfl, HA, HK2, HO_0, HO_6, HO_7, HI338, HB⟩ := hrel
          cases gk with
          | zero => exact absurd HA.out (by simp [longlinelaw13_UtfPieces.l0])
          | succ k2 =>
            have H := HA.out
            clear HA
            simp only [longlinelaw13_UtfPieces.l0] at H
            have HC10 := Aside0.mk H
            clear H
            go_upto_region 7 with (fail)
            go_cut [35] (fun v35 wc => ∃ (kq : Nat) (x35_9 : Bool), v35 = .bool x35_9 ∧ Aside0 (longlinelaw13_UtfPieces.j2 kq l0 l1 x6_2 x7_2 x8_2 x35_9 x339000_2 x339001_2 x339002_2 x339003_2 x339004_2 x339005_2 = some r) ∧ Aside0 (kq ≤ k2) ∧ Aside0 (Kd.V (Kd.int .u8) 5 wc w.heap.size (fun k_ => (P0_ k_ ∨ w.heap.size ≤ k_) ∧ some k_ ≠ (u6 : Value).ownBlock ∧ k_ ≠ g338) (.slice A0 l0.length c0) l0) ∧ Aside0 (Kd.R (Kd.int .i32) 21 wc w.heap.size (fun k_ => (w.heap.size ≤ k_)) u6 x6_2) ∧ Aside0 (Kd.V (Kd.int .u8) 5 wc w.heap.size (fun k_ => (P0_ k_ ∨ w.heap.size ≤ k_) ∧ some k_ ≠ (u6 : Value).ownBlock ∧ k_ ≠ g338) u7 x7_2) ∧ Aside0 (IsS35 w wc g338 x339000_2 x339001_2 x339002_2 x339003_2 x339004_2 x339005_2) ∧ Aside0 (Below w.heap.size w wc))
            case first =>
              have H := HC10.out
              clear HC10
              by_cases c11 : x8_2 < (l1.length : Int)
              · rw [if_pos c11] at H
                have c11b0 : decide (x8_2 < (l1.length : Int)) = true := decide_eq_true c11
                clear c11
                (first | rw [c11b0] | (simp only [i64_w, i32_w]; rw [c11b0]) | skip)
                have H' := Aside0.mk H
                clear H
                obtain ⟨Ao12, co12, eo12⟩ := Kd.V_slice HO_7.out
                subst eo12
                go_wp2
                go_meet
                case rel => exact ⟨_, (decide ((x7_2.length : Int) > 0)), (by first | rfl | (simp; done) | (simp [*]; done)), H', ⟨by have := HJ2.out; have := HK2.out; first | omega | exact Nat.le_refl _⟩, ⟨by (with_reducible repeat (first | apply Kd.V_alloc | apply Kd.V_drewN | apply Kd.V_drew)); exact HO_0.out⟩, ⟨by (with_reducible repeat (first | apply Kd.R_alloc | apply Kd.R_drewN | apply Kd.R_drew)); exact HO_6.out⟩, ⟨by (with_reducible repeat (first | apply Kd.V_alloc | apply Kd.V_drewN | apply Kd.V_drew)); exact HO_7.out⟩, ⟨by repeat (first | (with_reducible first | exact HI338.out | apply IsS35.alloc | apply IsS35.drewN | apply IsS35.drew | apply IsS35.set_0 | apply IsS35.set_1 | apply IsS35.set_2 | apply IsS35.set_3 | apply IsS35.set_4 | apply IsS35.set_5) | exact HI338.out)⟩, ⟨by repeat (first | (with_reducible first | exact HB.out | apply below_alloc | apply pw_below_drewN | apply below_drew1 | refine below_set ?_ (IsS35.ge HI338.out)) | exact HB.out)⟩⟩
              · rw [if_neg c11] at H
                have c11b0 : decide (x8_2 < (l1.length : Int)) = false := decide_eq_false c11
                clear c11
                (first | rw [c11b0] | (simp only [i64_w, i32_w]; rw [c11b0]) | skip)
                have H' := Aside0.mk H
                clear H
                go_wp2
                go_meet
                case rel => exact ⟨_, (false), (by first | rfl | (simp; done) | (simp [*]; done)), H', ⟨by have := HJ2.out; have := HK2.out; first | omega | exact Nat.le_refl _⟩, ⟨by (with_reducible repeat (first | apply Kd.V_alloc | apply Kd.V_drewN | apply Kd.V_drew)); exact HO_0.out⟩, ⟨by (with_reducible repeat (first | apply Kd.R_alloc | apply Kd.R_drewN | apply Kd.R_drew)); exact HO_6.out⟩, ⟨by (with_reducible repeat (first | apply Kd.V_alloc | apply Kd.V_drewN | apply Kd.V_drew)); exact HO_7.out⟩, ⟨by repeat (first | (with_reducible first | exact HI338.out | apply IsS35.alloc | apply IsS35.drewN | apply IsS35.drew | apply IsS35.set_0 | apply IsS35.set_1 | apply IsS35.set_2 | apply IsS35.set_3 | apply IsS35.set_4 | apply IsS35.set_5) | exact HI338.out)⟩, ⟨by repeat (first | (with_reducible first | exact HB.out | apply below_alloc | apply pw_below_drewN | apply below_drew1 | refine below_set ?_ (IsS35.ge HI338.out)) | exact HB.out)⟩⟩
            case rest =>
              clear HC10
              try clear c1
              try clear p2
              try clear c4
              try clear c4b0
              try clear c4b1
              try clear c5
              try clear c7
              try clear c8
              try clear c11
              try clear c11b0
              try clear p2
              obtain ⟨kq, x35_9, rfl, HA, HJ9, HO_0, HO_6, HO_7, HI338, HB⟩ := hcut
              cases kq with
              | zero => exact absurd HA.out (by simp [longlinelaw13_UtfPieces.j2])
              | succ kj9 =>
                have H := HA.out
                clear HA
                simp only [longlinelaw13_UtfPieces.j2] at H
                by_cases c13 : x35_9 = true
                · subst c13
                  have H1 : (if 0 ≤ x8_2 then (if x8_2 < (l1.length : Int) then (if (wrap64 (Go.bits .and .u8 (rd l1 x8_2) 3)) > (x7_2.length : Int) then (if 0 ≤ (x7_2.length : Int) then (if (x7_2.length : Int) ≤ (x7_2.length : Int) then ((utf_Reader_Read.f kj9 x339000_2 x339001_2 x339002_2 x339003_2 x339004_2 x339005_2 (x7_2.take ((x7_2.length : Int) : Int).toNat)).bind fun bt345 => (if bt345.2.1 = 0 then (if x6_2.length + bt345.1.length < 35184372088832 then (longlinelaw13_UtfPieces.l0 kj9 l0 l1 (x6_2 ++ bt345.1) (x7_2.drop ((x7_2.length : Int) : Int).toNat) (wrap64 (x8_2 + 1)) bt345.2.2.1 bt345.2.2.2.1 bt345.2.2.2.2.1 bt345.2.2.2.2.2.1 bt345.2.2.2.2.2.2.1 bt345.2.2.2.2.2.2.2) else (none)) else (some false))) else (none)) else (none)) else (if 0 ≤ (wrap64 (Go.bits .and .u8 (rd l1 x8_2) 3)) then (if (wrap64 (Go.bits .and .u8 (rd l1 x8_2) 3)) ≤ (x7_2.length : Int) then ((utf_Reader_Read.f kj9 x339000_2 x339001_2 x339002_2 x339003_2 x339004_2 x339005_2 (x7_2.take ((wrap64 (Go.bits .and .u8 (rd l1 x8_2) 3)) : Int).toNat)).bind fun bt368 => (if bt368.2.1 = 0 then (if x6_2.length + bt368.1.length < 35184372088832 then (longlinelaw13_UtfPieces.l0 kj9 l0 l1 (x6_2 ++ bt368.1) (x7_2.drop ((wrap64 (Go.bits .and .u8 (rd l1 x8_2) 3)) : Int).toNat) (wrap64 (x8_2 + 1)) bt368.2.2.1 bt368.2.2.2.1 bt368.2.2.2.2.1 bt368.2.2.2.2.2.1 bt368.2.2.2.2.2.2.1 bt368.2.2.2.2.2.2.2) else (none)) else (some false))) else (none)) else (none))) else (none)) else (none)) = some r := by rw [if_pos rfl] at H; exact H
                  clear H
                  have H := H1
                  clear H1
                  by_cases c14 : 0 ≤ x8_2
                  · rw [if_pos c14] at H
                    have c14b0 : decide (0 ≤ x8_2) = true := decide_eq_true c14
                    clear c14
                    by_cases c15 : x8_2 < (l1.length : Int)
                    · rw [if_pos c15] at H
                      have c15b0 : decide (x8_2 < (l1.length : Int)) = true := decide_eq_true c15
                      clear c15
                      by_cases c16 : (wrap64 (Go.bits .and .u8 (rd l1 x8_2) 3)) > (x7_2.length : Int)
                      · rw [if_pos c16] at H
                        have c16b0 : decide ((x7_2.length : Int) < (wrap64 (Go.bits .and .u8 (rd l1 x8_2) 3))) = true := decide_eq_true c16
                        clear c16
                        by_cases c17 : 0 ≤ (x7_2.length : Int)
                        · rw [if_pos c17] at H
                          have c17b0 := eq_true c17
                          have c17b1 : decide (0 ≤ (x7_2.length : Int)) = true := decide_eq_true c17
                          clear c17
                          by_cases c18 : (x7_2.length : Int) ≤ (x7_2.length : Int)
                          · rw [if_pos c18] at H
                            have c18b0 := eq_true c18
                            have c18b1 : decide ((x7_2.length : Int) ≤ (x7_2.length : Int)) = true := decide_eq_true c18
                            clear c18
                            obtain ⟨y340, hy340⟩ : ∃ y_ : List Int, y_ = (x7_2.take ((x7_2.length : Int) : Int).toNat) := ⟨_, rfl⟩
                            replace H : ((utf_Reader_Read.f kj9 x339000_2 x339001_2 x339002_2 x339003_2 x339004_2 x339005_2 y340).bind fun bt345 => (if bt345.2.1 = 0 then (if x6_2.length + bt345.1.length < 35184372088832 then (longlinelaw13_UtfPieces.l0 kj9 l0 l1 (x6_2 ++ bt345.1) (x7_2.drop ((x7_2.length : Int) : Int).toNat) (wrap64 (x8_2 + 1)) bt345.2.2.1 bt345.2.2.2.1 bt345.2.2.2.2.1 bt345.2.2.2.2.2.1 bt345.2.2.2.2.2.2.1 bt345.2.2.2.2.2.2.2) else (none)) else (some false))) = some r := by first | (rw [hy340]; with_reducible exact H) | (have H2_ := (Option.bind_some _ _).symm.trans H; rw [hy340]; with_reducible exact H2_) | (have H2_ := (Option.bind_some _ _).symm.trans H; with_reducible exact H2_) | with_reducible exact H | (rw [hy340]; exact H) | exact H
                            have Ny340 := Aside0.mk hy340
                            clear hy340
                            replace H := Option.bind_eq_some_iff.mp H
                            obtain ⟨⟨t345, t348, t349, t350, t351, t352, t353, t354⟩, A190, H⟩ := H
                            replace H : (if t348 = 0 then (if x6_2.length + t345.length < 35184372088832 then (longlinelaw13_UtfPieces.l0 kj9 l0 l1 (x6_2 ++ t345) (x7_2.drop ((x7_2.length : Int) : Int).toNat) (wrap64 (x8_2 + 1)) t349 t350 t351 t352 t353 t354) else (none)) else (some false)) = some r := H
                            have A19 := Aside0.mk A190
                            clear A190
                            by_cases c20 : t348 = 0
                            · rw [if_pos c20] at H
                              have c20b0 : (t348 == 0) = true := beq_iff_eq.mpr c20
                              have c20b1 : (t348 != 0) = false := bne_eq_false_iff_eq.mpr c20
                              clear c20
                              by_cases c21 : x6_2.length + t345.length < 35184372088832
                              · rw [if_pos c21] at H
                                have LMc21 := Aside0.mk c21
                                clear c21
                                obtain ⟨y355, hy355⟩ : ∃ y_ : List Int, y_ = (x6_2 ++ t345) := ⟨_, rfl⟩
                                replace H : (longlinelaw13_UtfPieces.l0 kj9 l0 l1 y355 (x7_2.drop ((x7_2.length : Int) : Int).toNat) (wrap64 (x8_2 + 1)) t349 t350 t351 t352 t353 t354) = some r := by first | (rw [hy355]; with_reducible exact H) | (have H2_ := (Option.bind_some _ _).symm.trans H; rw [hy355]; with_reducible exact H2_) | (have H2_ := (Option.bind_some _ _).symm.trans H; with_reducible exact H2_) | with_reducible exact H | (rw [hy355]; exact H) | exact H
                                have Ny355 := Aside0.mk hy355
                                clear hy355
                                have c22b0 := eq_true (of_decide_eq_true (by first | (with_reducible assumption) | assumption) : 0 ≤ (x7_2.length : Int))
                                have c23b0 := eq_true (of_decide_eq_true (by first | (with_reducible assumption) | assumption) : (x7_2.length : Int) ≤ (x7_2.length : Int))
                                obtain ⟨y358, hy358⟩ : ∃ y_ : List Int, y_ = (x7_2.drop ((x7_2.length : Int) : Int).toNat) := ⟨_, rfl⟩
                                replace H : (longlinelaw13_UtfPieces.l0 kj9 l0 l1 y355 y358 (wrap64 (x8_2 + 1)) t349 t350 t351 t352 t353 t354) = some r := by first | (rw [hy358]; with_reducible exact H) | (have H2_ := (Option.bind_some _ _).symm.trans H; rw [hy358]; with_reducible exact H2_) | (have H2_ := (Option.bind_some _ _).symm.trans H; with_reducible exact H2_) | with_reducible exact H | (rw [hy358]; exact H) | exact H
                                have Ny358 := Aside0.mk hy358
                                clear hy358
                                have H' := Aside0.mk H
                                clear H
                                have p339 : 0 ≤ (x8_2 : Int) := of_decide_eq_true (by first | (with_reducible assumption) | assumption)
                                have q339 : x8_2 < (l1.length : Int) := of_decide_eq_true (by first | (with_reducible assumption) | assumption)
                                obtain ⟨ad339, e339, hx339_0⟩ := Kd.at_int HR1.out x8_2 p339 q339
                                cases e339
                                replace hx339_0 := (HB.out.cell (World.block_lt_of_cell? w _ hx339_0)).trans hx339_0
                                replace p339 := eq_true p339
                                replace q339 := eq_true q339
                                obtain ⟨Ao24, co24, eo24⟩ := Kd.V_slice HO_7.out
                                subst eo24
                                have q25 : ((x7_2.length : Int) : Int) ≤ ((x7_2.length : Int) : Int) := of_decide_eq_true (by first | (with_reducible assumption) | assumption)
                                obtain ⟨i025, hi025, _, hsz25, _⟩ := info_parts info5
                                have hroom25 : x7_2.length ≤ co24 := (Kd.V_reads' HO_7.out).2.1
                                have hC25 : Kd.F (Kd.int .u8) _ _ Ao24 x7_2.length x7_2 := (Kd.V_at (base := w.heap.size) HO_7.out).2.2
                                have hcut25 := cut_to (P := Try.prog) 22 5 .i64 Try.underlying22 hi025 Ao24 x7_2.length co24 (x7_2.length : Int) (of_decide_eq_true (by first | (with_reducible assumption) | assumption)) q25 hroom25
                                have hr25 := Kd.F_take (m := ((x7_2.length : Int) : Int).toNat) hC25 (by omega)
                                have hy25 : y340.length = ((x7_2.length : Int) : Int).toNat := (by rw [Ny340.out, List.length_take]; omega)
                                rw [← Ny340.out] at hr25
                                rw [← hy25] at hcut25
                                have HO344 := Aside0.mk (show Kd.V (Kd.int .u8) 5 _ w.heap.size _ (.slice Ao24 y340.length co24) y340 from Kd.V_mk (by omega) hr25)
                                have HC344 := Aside0.mk (show y340.length ≤ co24 from by omega)
                                clear hr25 hC25 hroom25 hi025 hsz25
                                have KY25 := Aside0.mk hy25
                                clear hy25
                                replace q25 := eq_true q25
                                go_wp2_with (first | ((with_reducible refine gate_callee (f := 9) rfl ?_); refine goesL_ (some 55) rfl rfl Try.func9 (by kernel_rfl) rfl #[.pointer (some ⟨g338, 0, none⟩), .slice Ao24 y340.length co24] rfl (by (try simp only [List.map_toArray, List.map_cons, List.map_nil]); first | done | rfl | (simp only [List.length_drop, List.length_take]; rfl)) ?_; (with_reducible refine (utf_Reader_Read.calls kj9 g338 x339000_2 x339001_2 x339002_2 x339003_2 x339004_2 x339005_2 _ _ y340 t345 t348 t349 t350 t351 t352 t353 t354 w _ ?side1 ?side2 ?side3 ?side4 ?side5 A19.out).mono ?_); (case side1 => repeat (first | (with_reducible first | exact HI338.out | apply IsS35.alloc | apply IsS35.drewN | apply IsS35.drew | apply IsS35.set_0 | apply IsS35.set_1 | apply IsS35.set_2 | apply IsS35.set_3 | apply IsS35.set_4 | apply IsS35.set_5) | exact HI338.out)); (case side2 => repeat (first | (with_reducible first | exact HB.out | apply below_alloc | apply pw_below_drewN | apply below_drew1 | refine below_set ?_ (IsS35.ge HI338.out)) | exact HB.out)); (case side3 => repeat (first | exact (Kd.V_reads' HO344.out).2.2 | (with_reducible refine Kd.C_alloc ?_ _) | (with_reducible refine Kd.C_drewN ?_ _) | (with_reducible refine Kd.C_drew ?_))); (case side4 => exact (Kd.V_reads' HO344.out).2.1); (case side5 => intro ad he hn; have h_ := Kd.F_in (Kd.V_F HO344.out) he hn Nat.zero_lt_one; exact h_.2.2); rintro e w26 ⟨v346, rfl, ho0, hi, hb, hk⟩; refine ⟨_, rfl, ?_⟩; have n0_ := Aside0.mk (Kd.V_mono (Kd.V_told (Kd.V_oldK (Kd.V_mono (ok := fun k_ => (((P0_ k_ ∨ w.heap.size ≤ k_)) ∧ (some k_ ≠ (u6 : Value).ownBlock ∧ k_ ≠ g338))) (by (with_reducible repeat (first | apply Kd.V_alloc | apply Kd.V_drewN | apply Kd.V_drew)); exact HO_0.out) (fun k_ hk_ => (⟨hk_, hk_.2.2⟩ : _ ∧ k_ ≠ g338))) hk) (Kd.R_base ho0)) (fun _ h_ => h_.1)); have n1_ := Aside0.mk (Kd.R_mono (Kd.R_told (Kd.R_oldK (IsS35.apart (show IsS35 w _ g338 x339000_2 x339001_2 x339002_2 x339003_2 x339004_2 x339005_2 from by repeat (first | (with_reducible first | exact HI338.out | apply IsS35.alloc | apply IsS35.drewN | apply IsS35.drew | apply IsS35.set_0 | apply IsS35.set_1 | apply IsS35.set_2 | apply IsS35.set_3 | apply IsS35.set_4 | apply IsS35.set_5) | exact HI338.out)) (by (with_reducible repeat (first | apply Kd.R_alloc | apply Kd.R_drewN | apply Kd.R_drew)); exact HO_6.out) (by decide)) hk) (Kd.R_base ho0)) (fun _ h_ => h_.1)); have n2_ := Aside0.mk (Kd.V_mono (Kd.V_told (Kd.V_oldK (Kd.V_mono (ok := fun k_ => (((P0_ k_ ∨ w.heap.size ≤ k_)) ∧ (some k_ ≠ (u6 : Value).ownBlock ∧ k_ ≠ g338))) (by (with_reducible repeat (first | apply Kd.V_alloc | apply Kd.V_drewN | apply Kd.V_drew)); exact HO_7.out) (fun k_ hk_ => (⟨hk_, hk_.2.2⟩ : _ ∧ k_ ≠ g338))) hk) (Kd.R_base ho0)) (fun _ h_ => h_.1)); have n3_ := Aside0.mk (Kd.V_mono (Kd.V_told (Kd.V_oldK (Kd.V_mono (ok := fun k_ => (((P0_ k_ ∨ w.heap.size ≤ k_)) ∧ (some k_ ≠ (u6 : Value).ownBlock ∧ k_ ≠ g338))) (by (with_reducible repeat (first | apply Kd.V_alloc | apply Kd.V_drewN | apply Kd.V_drew)); exact HO344.out) (fun k_ hk_ => (⟨hk_, hk_.2.2⟩ : _ ∧ k_ ≠ g338))) hk) (Kd.R_base ho0)) (fun _ h_ => h_.1)); have n4_ := Aside0.mk (Kd.R_lower (Kd.R_new' (Kd.R_newM (M := fun k_ => (w.heap.size ≤ k_)) ho0 (below_size (by repeat (first | (with_reducible first | exact HB.out | apply below_alloc | apply pw_below_drewN | apply below_drew1 | refine below_set ?_ (IsS35.ge HI338.out)) | exact HB.out))) (fun k_ h_ => h_)) (Kd.R_lt (by (with_reducible repeat (first | apply Kd.R_alloc | apply Kd.R_drewN | apply Kd.R_drew)); exact HO_6.out))) (below_size (by repeat (first | (with_reducible first | exact HB.out | apply below_alloc | apply pw_below_drewN | apply below_drew1 | refine below_set ?_ (IsS35.ge HI338.out)) | exact HB.out)))); have n5_ := Aside0.mk (hb); have n6_ := Aside0.mk (hi); clear HO_0; clear HO_6; clear HO_7; clear HO344; clear HB; clear HI338; have HO_0 := n0_; have HO_6 := n1_; have HO_7 := n2_; have HO344 := n3_; have HO347 := n4_; have HB := n5_; have HI338 := n6_; clear n0_ n1_ n2_ n3_ n4_ n5_ n6_; (try clear hb); (try clear hb2); (try clear hk); (try clear hi); (try clear ho0); obtain ⟨Ao28, co28, eo28⟩ := Kd.R_slice HO347.out; subst eo28) | ((with_reducible refine gate_builtin (b := .append) (xs := #[.tmp 60, .tmp 61]) rfl ?_); (try (refine gate_guard (by rfl) ?_; dsimp only)); at_builtin; refine Kd.R_append_rows (Kd.int .i32) (w0 := w) w.heap.size rfl (.tmp 60) (.tmp 61) 23 21 (.int .i32 0) 4 rfl Try.underlying23 info21 rfl (by decide) (by omega) u6 x6_2 t345 _ _ _ (fun k_ => (w.heap.size ≤ k_) ∧ some k_ ≠ (.slice Ao28 t345.length co28 : Value).ownBlock) (fun _ => False) rfl rfl ?aO ?aR (fun _ _ h => h) (fun _ h => h.elim) ?aF ?aB ?aS ?aL ?_; (case aR => repeat (first | exact (Kd.R_reads' HO347.out).2.2 | (with_reducible refine Kd.C_alloc ?_ _) | (with_reducible refine Kd.C_drewN ?_ _) | (with_reducible refine Kd.C_drew ?_))); (case aB => exact (by repeat (first | (with_reducible first | exact HB.out | apply below_alloc | apply pw_below_drewN | apply below_drew1 | refine below_set ?_ (IsS35.ge HI338.out)) | exact HB.out))); (case aF => exact (fun k_ hk => ⟨(Nat.le_trans (below_size (by repeat (first | (with_reducible first | exact HB.out | apply below_alloc | apply pw_below_drewN | apply below_drew1 | refine below_set ?_ (IsS35.ge HI338.out)) | exact HB.out))) hk), Kd.fresh' (Kd.R_lt (by (with_reducible repeat (first | apply Kd.R_alloc | apply Kd.R_drewN | apply Kd.R_drew)); exact HO347.out)) k_ hk⟩)); (case aO => exact (by (with_reducible repeat (first | apply Kd.R_alloc | apply Kd.R_drewN | apply Kd.R_drew)); exact HO_6.out)); (case aS => exact (below_size (by repeat (first | (with_reducible first | exact HB.out | apply below_alloc | apply pw_below_drewN | apply below_drew1 | refine below_set ?_ (IsS35.ge HI338.out)) | exact HB.out)))); (case aL => have := LMc21.out; omega); intro v356 w27 ho hb hg hat; rw [← Ny355.out] at ho; have n0_ := Aside0.mk (Kd.V_afterv (ok := (fun k_ => (P0_ k_ ∨ w.heap.size ≤ k_) ∧ some k_ ≠ (.slice Ao28 t345.length co28 : Value).ownBlock ∧ k_ ≠ g338)) (by (with_reducible repeat (first | apply Kd.V_alloc | apply Kd.V_drewN | apply Kd.V_drew)); exact Kd.V_mono HO_0.out (fun _ hk => ⟨⟨hk.1.1, ⟨hk.2, hk.1.2.2⟩⟩, hk.1.2.1⟩)) hg hat); have n1_ := Aside0.mk (Kd.V_afterv (ok := (fun k_ => (P0_ k_ ∨ w.heap.size ≤ k_) ∧ some k_ ≠ (.slice Ao28 t345.length co28 : Value).ownBlock ∧ k_ ≠ g338)) (by (with_reducible repeat (first | apply Kd.V_alloc | apply Kd.V_drewN | apply Kd.V_drew)); exact Kd.V_mono HO_7.out (fun _ hk => ⟨⟨hk.1.1, ⟨hk.2, hk.1.2.2⟩⟩, hk.1.2.1⟩)) hg hat); have n2_ := Aside0.mk (IsS35.grown (by repeat (first | (with_reducible first | exact HI338.out | apply IsS35.alloc | apply IsS35.drewN | apply IsS35.drew | apply IsS35.set_0 | apply IsS35.set_1 | apply IsS35.set_2 | apply IsS35.set_3 | apply IsS35.set_4 | apply IsS35.set_5) | exact HI338.out)) hg (IsS35.own_ne HI338.out HO_6.out (by decide))); have n3_ := Aside0.mk (Kd.V_afterv (ok := (fun k_ => (P0_ k_ ∨ w.heap.size ≤ k_) ∧ some k_ ≠ (.slice Ao28 t345.length co28 : Value).ownBlock ∧ k_ ≠ g338)) (by (with_reducible repeat (first | apply Kd.V_alloc | apply Kd.V_drewN | apply Kd.V_drew)); exact Kd.V_mono HO344.out (fun _ hk => ⟨⟨hk.1.1, ⟨hk.2, hk.1.2.2⟩⟩, hk.1.2.1⟩)) hg hat); have n4_ := Aside0.mk (Kd.R_after (ok := (fun k_ => (w.heap.size ≤ k_))) (by (with_reducible repeat (first | apply Kd.R_alloc | apply Kd.R_drewN | apply Kd.R_drew)); exact Kd.R_mono HO347.out (fun _ hk => ⟨hk.1.1, hk.2⟩)) hg hat); have n5_ := Aside0.mk (hb); have n6_ := Aside0.mk (ho); clear HO_0; clear HO_7; clear HI338; clear HO344; clear HO347; clear HB; clear HO_6; have HO_0 := n0_; have HO_7 := n1_; have HI338 := n2_; have HO344 := n3_; have HO347 := n4_; have HB := n5_; have HO357 := n6_; clear n0_ n1_ n2_ n3_ n4_ n5_ n6_; clear ho hb hg hat; have q29 : ((x7_2.length : Int) : Int) ≤ ((x7_2.length : Int) : Int) := of_decide_eq_true (by first | (with_reducible assumption) | assumption); obtain ⟨i029, hi029, _, hsz29, _⟩ := info_parts info5; have hroom29 : x7_2.length ≤ co24 := (Kd.V_reads' HO_7.out).2.1; have hC29 : Kd.F (Kd.int .u8) _ _ Ao24 x7_2.length x7_2 := (Kd.V_at (base := w.heap.size) HO_7.out).2.2; have q029 : (0 : Int) ≤ ((x7_2.length : Int) : Int) := of_decide_eq_true (by first | (with_reducible assumption) | assumption); have hcut29 := cut_from (P := Try.prog) 22 5 .i64 Try.underlying22 hi029 1 hsz29 Ao24 x7_2.length co24 (x7_2.length : Int) q029 q29; have hr29 := Kd.F_cut (m := ((x7_2.length : Int) : Int).toNat) (c := co24) hC29 (by omega) hroom29; obtain ⟨A29, hA29⟩ : ∃ A1, A1 = (if co24 = ((x7_2.length : Int) : Int).toNat then Ao24 else (Ao24 : Option Addr).map (·.add (((x7_2.length : Int) : Int).toNat * 1))) := ⟨_, rfl⟩; obtain ⟨c29, hc29⟩ : ∃ c1, c1 = co24 - ((x7_2.length : Int) : Int).toNat := ⟨_, rfl⟩; have hy29 : y358.length = x7_2.length - ((x7_2.length : Int) : Int).toNat := (by rw [Ny358.out, List.length_drop] <;> omega); rw [show (x7_2).drop ((x7_2.length : Int) : Int).toNat = y358 from Ny358.out.symm] at hr29; replace hr29 : Kd.F (Kd.int .u8) _ _ A29 y358.length y358 := (by rw [hA29]; exact hr29); rw [← hy29, ← hA29, ← hc29] at hcut29; have HO362 := Aside0.mk (show Kd.V (Kd.int .u8) 5 _ w.heap.size _ (.slice A29 y358.length c29) y358 from Kd.V_mk (by rw [hy29, hc29]; exact Nat.sub_le_sub_right hroom29 _) hr29); have HC362 := Aside0.mk (show y358.length ≤ c29 from by rw [hy29, hc29]; exact Nat.sub_le_sub_right hroom29 _); clear hr29 hC29 hroom29 hi029 hsz29 hc29; have KY29 := Aside0.mk hy29; have KA29 := Aside0.mk hA29; clear hy29 hA29; replace q29 := eq_true q29))
                                go_roundg kj9
                                case measure => have := HJ2.out; have := HK2.out; have := HJ9.out; omega
                                case rel => exact ⟨(y355), (y358), (wrap64 (x8_2 + 1)), (t349), (t350), (t351), (t352), (t353), (t354), (by first | rfl | (simp; done) | (simp [*]; done)), H', ⟨by have := HJ2.out; have := HK2.out; have := HJ9.out; omega⟩, ⟨by (with_reducible repeat (first | apply Kd.V_alloc | apply Kd.V_drewN | apply Kd.V_drew)); exact Kd.V_mono HO_0.out (fun _ hk => ⟨hk.1.1, ⟨hk.2, hk.1.2.2⟩⟩)⟩, ⟨by (with_reducible repeat (first | apply Kd.R_alloc | apply Kd.R_drewN | apply Kd.R_drew)); exact Kd.R_mono HO357.out (fun _ hk => hk.1)⟩, ⟨by (with_reducible repeat (first | apply Kd.V_alloc | apply Kd.V_drewN | apply Kd.V_drew)); exact Kd.V_mono HO362.out (fun _ hk => ⟨hk.1.1, ⟨hk.2, hk.1.2.2⟩⟩)⟩, ⟨by repeat (first | (with_reducible first | exact HI338.out | apply IsS35.alloc | apply IsS35.drewN | apply IsS35.drew | apply IsS35.set_0 | apply IsS35.set_1 | apply IsS35.set_2 | apply IsS35.set_3 | apply IsS35.set_4 | apply IsS35.set_5) | exact HI338.out)⟩, ⟨by repeat (first | (with_reducible first | exact HB.out | apply below_alloc | apply pw_below_drewN | apply below_drew1 | refine below_set ?_ (IsS35.ge HI338.out)) | exact HB.out)⟩⟩
                              · rw [if_neg c21] at H
                                exact absurd H (by simp)
                            · rw [if_neg c20] at H
                              have c20b0 : (t348 == 0) = false := beq_eq_false_iff_ne.mpr c20
                              have c20b1 : (t348 != 0) = true := bne_iff_ne.mpr c20
                              exact absurd (HT0_.out.symm.trans (Option.some.inj H).symm) (by decide)
                          · rw [if_neg c18] at H
                            exact absurd H (by simp)
                        · rw [if_neg c17] at H
                          exact absurd H (by simp)
                      · rw [if_neg c16] at H
                        have c16b0 : decide ((x7_2.length : Int) < (wrap64 (Go.bits .and .u8 (rd l1 x8_2) 3))) = false := decide_eq_false c16
                        clear c16
                        obtain ⟨ji30, hji30⟩ : ∃ j_ : Int, (wrap64 (Go.bits .and .u8 (rd l1 x8_2) 3)) = j_ := ⟨_, rfl⟩
                        replace H : (if 0 ≤ (ji30) then (if (ji30) ≤ (x7_2.length : Int) then ((utf_Reader_Read.f kj9 x339000_2 x339001_2 x339002_2 x339003_2 x339004_2 x339005_2 (x7_2.take ((ji30) : Int).toNat)).bind fun bt368 => (if bt368.2.1 = 0 then (if x6_2.length + bt368.1.length < 35184372088832 then (longlinelaw13_UtfPieces.l0 kj9 l0 l1 (x6_2 ++ bt368.1) (x7_2.drop ((ji30) : Int).toNat) (wrap64 (x8_2 + 1)) bt368.2.2.1 bt368.2.2.2.1 bt368.2.2.2.2.1 bt368.2.2.2.2.2.1 bt368.2.2.2.2.2.2.1 bt368.2.2.2.2.2.2.2) else (none)) else (some false))) else (none)) else (none)) = some r := by first | (rw [hji30] at H; exact H) | (simp only [hji30] at H ⊢; exact H)
                        (try rw [hji30] at c16b0)
                        have hji30w : (IntKind.i64.wrap (Go.bits .and .u8 (rd l1 x8_2) 3)) = ji30 := (i64_w _).trans hji30
                        by_cases c31 : 0 ≤ (ji30)
                        · rw [if_pos c31] at H
                          have c31b0 := eq_true c31
                          have c31b1 : decide (0 ≤ (ji30)) = true := decide_eq_true c31
                          clear c31
                          by_cases c32 : (ji30) ≤ (x7_2.length : Int)
                          · rw [if_pos c32] at H
                            have c32b0 := eq_true c32
                            have c32b1 : decide ((ji30) ≤ (x7_2.length : Int)) = true := decide_eq_true c32
                            clear c32
                            obtain ⟨y363, hy363⟩ : ∃ y_ : List Int, y_ = (x7_2.take ((ji30) : Int).toNat) := ⟨_, rfl⟩
                            replace H : ((utf_Reader_Read.f kj9 x339000_2 x339001_2 x339002_2 x339003_2 x339004_2 x339005_2 y363).bind fun bt368 => (if bt368.2.1 = 0 then (if x6_2.length + bt368.1.length < 35184372088832 then (longlinelaw13_UtfPieces.l0 kj9 l0 l1 (x6_2 ++ bt368.1) (x7_2.drop ((ji30) : Int).toNat) (wrap64 (x8_2 + 1)) bt368.2.2.1 bt368.2.2.2.1 bt368.2.2.2.2.1 bt368.2.2.2.2.2.1 bt368.2.2.2.2.2.2.1 bt368.2.2.2.2.2.2.2) else (none)) else (some false))) = some r := by first | (rw [hy363]; with_reducible exact H) | (have H2_ := (Option.bind_some _ _).symm.trans H; rw [hy363]; with_reducible exact H2_) | (have H2_ := (Option.bind_some _ _).symm.trans H; with_reducible exact H2_) | with_reducible exact H | (rw [hy363]; exact H) | exact H
                            have Ny363 := Aside0.mk hy363
                            clear hy363
                            replace H := Option.bind_eq_some_iff.mp H
                            obtain ⟨⟨t368, t371, t372, t373, t374, t375, t376, t377⟩, A330, H⟩ := H
                            replace H : (if t371 = 0 then (if x6_2.length + t368.length < 35184372088832 then (longlinelaw13_UtfPieces.l0 kj9 l0 l1 (x6_2 ++ t368) (x7_2.drop ((ji30) : Int).toNat) (wrap64 (x8_2 + 1)) t372 t373 t374 t375 t376 t377) else (none)) else (some false)) = some r := H
                            have A33 := Aside0.mk A330
                            clear A330
                            by_cases c34 : t371 = 0
                            · rw [if_pos c34] at H
                              have c34b0 : (t371 == 0) = true := beq_iff_eq.mpr c34
                              have c34b1 : (t371 != 0) = false := bne_eq_false_iff_eq.mpr c34
                              clear c34
                              by_cases c35 : x6_2.length + t368.length < 35184372088832
                              · rw [if_pos c35] at H
                                have LMc35 := Aside0.mk c35
                                clear c35
                                obtain ⟨y378, hy378⟩ : ∃ y_ : List Int, y_ = (x6_2 ++ t368) := ⟨_, rfl⟩
                                replace H : (longlinelaw13_UtfPieces.l0 kj9 l0 l1 y378 (x7_2.drop ((ji30) : Int).toNat) (wrap64 (x8_2 + 1)) t372 t373 t374 t375 t376 t377) = some r := by first | (rw [hy378]; with_reducible exact H) | (have H2_ := (Option.bind_some _ _).symm.trans H; rw [hy378]; with_reducible exact H2_) | (have H2_ := (Option.bind_some _ _).symm.trans H; with_reducible exact H2_) | with_reducible exact H | (rw [hy378]; exact H) | exact H
                                have Ny378 := Aside0.mk hy378
                                clear hy378
                                have c36b0 := eq_true (of_decide_eq_true (by first | (with_reducible assumption) | assumption) : 0 ≤ (ji30))
                                have c37b0 := eq_true (of_decide_eq_true (by first | (with_reducible assumption) | assumption) : (ji30) ≤ (x7_2.length : Int))
                                obtain ⟨y381, hy381⟩ : ∃ y_ : List Int, y_ = (x7_2.drop ((ji30) : Int).toNat) := ⟨_, rfl⟩
                                replace H : (longlinelaw13_UtfPieces.l0 kj9 l0 l1 y378 y381 (wrap64 (x8_2 + 1)) t372 t373 t374 t375 t376 t377) = some r := by first | (rw [hy381]; with_reducible exact H) | (have H2_ := (Option.bind_some _ _).symm.trans H; rw [hy381]; with_reducible exact H2_) | (have H2_ := (Option.bind_some _ _).symm.trans H; with_reducible exact H2_) | with_reducible exact H | (rw [hy381]; exact H) | exact H
                                have Ny381 := Aside0.mk hy381
                                clear hy381
                                have H' := Aside0.mk H
                                clear H
                                have p339 : 0 ≤ (x8_2 : Int) := of_decide_eq_true (by first | (with_reducible assumption) | assumption)
                                have q339 : x8_2 < (l1.length : Int) := of_decide_eq_true (by first | (with_reducible assumption) | assumption)
                                obtain ⟨ad339, e339, hx339_0⟩ := Kd.at_int HR1.out x8_2 p339 q339
                                cases e339
                                replace hx339_0 := (HB.out.cell (World.block_lt_of_cell? w _ hx339_0)).trans hx339_0
                                replace p339 := eq_true p339
                                replace q339 := eq_true q339
                                obtain ⟨Ao38, co38, eo38⟩ := Kd.V_slice HO_7.out
                                subst eo38
                                have q39 : ((ji30) : Int) ≤ ((x7_2.length : Int) : Int) := of_decide_eq_true (by first | (with_reducible assumption) | assumption)
                                obtain ⟨i039, hi039, _, hsz39, _⟩ := info_parts info5
                                have hroom39 : x7_2.length ≤ co38 := (Kd.V_reads' HO_7.out).2.1
                                have hC39 : Kd.F (Kd.int .u8) _ _ Ao38 x7_2.length x7_2 := (Kd.V_at (base := w.heap.size) HO_7.out).2.2
                                have hcut39 := cut_to (P := Try.prog) 22 5 .i64 Try.underlying22 hi039 Ao38 x7_2.length co38 (ji30) (of_decide_eq_true (by first | (with_reducible assumption) | assumption)) q39 hroom39
                                have hr39 := Kd.F_take (m := ((ji30) : Int).toNat) hC39 (by omega)
                                have hy39 : y363.length = ((ji30) : Int).toNat := (by rw [Ny363.out, List.length_take]; omega)
                                rw [← Ny363.out] at hr39
                                rw [← hy39] at hcut39
                                have HO367 := Aside0.mk (show Kd.V (Kd.int .u8) 5 _ w.heap.size _ (.slice Ao38 y363.length co38) y363 from Kd.V_mk (by omega) hr39)
                                have HC367 := Aside0.mk (show y363.length ≤ co38 from by omega)
                                clear hr39 hC39 hroom39 hi039 hsz39
                                have KY39 := Aside0.mk hy39
                                clear hy39
                                replace q39 := eq_true q39
                                go_wp2_with (first | ((with_reducible refine gate_callee (f := 9) rfl ?_); refine goesL_ (some 55) rfl rfl Try.func9 (by kernel_rfl) rfl #[.pointer (some ⟨g338, 0, none⟩), .slice Ao38 y363.length co38] rfl (by (try simp only [List.map_toArray, List.map_cons, List.map_nil]); first | done | rfl | (simp only [List.length_drop, List.length_take]; rfl)) ?_; (with_reducible refine (utf_Reader_Read.calls kj9 g338 x339000_2 x339001_2 x339002_2 x339003_2 x339004_2 x339005_2 _ _ y363 t368 t371 t372 t373 t374 t375 t376 t377 w _ ?side1 ?side2 ?side3 ?side4 ?side5 A33.out).mono ?_); (case side1 => repeat (first | (with_reducible first | exact HI338.out | apply IsS35.alloc | apply IsS35.drewN | apply IsS35.drew | apply IsS35.set_0 | apply IsS35.set_1 | apply IsS35.set_2 | apply IsS35.set_3 | apply IsS35.set_4 | apply IsS35.set_5) | exact HI338.out)); (case side2 => repeat (first | (with_reducible first | exact HB.out | apply below_alloc | apply pw_below_drewN | apply below_drew1 | refine below_set ?_ (IsS35.ge HI338.out)) | exact HB.out)); (case side3 => repeat (first | exact (Kd.V_reads' HO367.out).2.2 | (with_reducible refine Kd.C_alloc ?_ _) | (with_reducible refine Kd.C_drewN ?_ _) | (with_reducible refine Kd.C_drew ?_))); (case side4 => exact (Kd.V_reads' HO367.out).2.1); (case side5 => intro ad he hn; have h_ := Kd.F_in (Kd.V_F HO367.out) he hn Nat.zero_lt_one; exact h_.2.2); rintro e w40 ⟨v369, rfl, ho0, hi, hb, hk⟩; refine ⟨_, rfl, ?_⟩; have n0_ := Aside0.mk (Kd.V_mono (Kd.V_told (Kd.V_oldK (Kd.V_mono (ok := fun k_ => (((P0_ k_ ∨ w.heap.size ≤ k_)) ∧ (some k_ ≠ (u6 : Value).ownBlock ∧ k_ ≠ g338))) (by (with_reducible repeat (first | apply Kd.V_alloc | apply Kd.V_drewN | apply Kd.V_drew)); exact HO_0.out) (fun k_ hk_ => (⟨hk_, hk_.2.2⟩ : _ ∧ k_ ≠ g338))) hk) (Kd.R_base ho0)) (fun _ h_ => h_.1)); have n1_ := Aside0.mk (Kd.R_mono (Kd.R_told (Kd.R_oldK (IsS35.apart (show IsS35 w _ g338 x339000_2 x339001_2 x339002_2 x339003_2 x339004_2 x339005_2 from by repeat (first | (with_reducible first | exact HI338.out | apply IsS35.alloc | apply IsS35.drewN | apply IsS35.drew | apply IsS35.set_0 | apply IsS35.set_1 | apply IsS35.set_2 | apply IsS35.set_3 | apply IsS35.set_4 | apply IsS35.set_5) | exact HI338.out)) (by (with_reducible repeat (first | apply Kd.R_alloc | apply Kd.R_drewN | apply Kd.R_drew)); exact HO_6.out) (by decide)) hk) (Kd.R_base ho0)) (fun _ h_ => h_.1)); have n2_ := Aside0.mk (Kd.V_mono (Kd.V_told (Kd.V_oldK (Kd.V_mono (ok := fun k_ => (((P0_ k_ ∨ w.heap.size ≤ k_)) ∧ (some k_ ≠ (u6 : Value).ownBlock ∧ k_ ≠ g338))) (by (with_reducible repeat (first | apply Kd.V_alloc | apply Kd.V_drewN | apply Kd.V_drew)); exact HO_7.out) (fun k_ hk_ => (⟨hk_, hk_.2.2⟩ : _ ∧ k_ ≠ g338))) hk) (Kd.R_base ho0)) (fun _ h_ => h_.1)); have n3_ := Aside0.mk (Kd.V_mono (Kd.V_told (Kd.V_oldK (Kd.V_mono (ok := fun k_ => (((P0_ k_ ∨ w.heap.size ≤ k_)) ∧ (some k_ ≠ (u6 : Value).ownBlock ∧ k_ ≠ g338))) (by (with_reducible repeat (first | apply Kd.V_alloc | apply Kd.V_drewN | apply Kd.V_drew)); exact HO367.out) (fun k_ hk_ => (⟨hk_, hk_.2.2⟩ : _ ∧ k_ ≠ g338))) hk) (Kd.R_base ho0)) (fun _ h_ => h_.1)); have n4_ := Aside0.mk (Kd.R_lower (Kd.R_new' (Kd.R_newM (M := fun k_ => (w.heap.size ≤ k_)) ho0 (below_size (by repeat (first | (with_reducible first | exact HB.out | apply below_alloc | apply pw_below_drewN | apply below_drew1 | refine below_set ?_ (IsS35.ge HI338.out)) | exact HB.out))) (fun k_ h_ => h_)) (Kd.R_lt (by (with_reducible repeat (first | apply Kd.R_alloc | apply Kd.R_drewN | apply Kd.R_drew)); exact HO_6.out))) (below_size (by repeat (first | (with_reducible first | exact HB.out | apply below_alloc | apply pw_below_drewN | apply below_drew1 | refine below_set ?_ (IsS35.ge HI338.out)) | exact HB.out)))); have n5_ := Aside0.mk (hb); have n6_ := Aside0.mk (hi); clear HO_0; clear HO_6; clear HO_7; clear HO367; clear HB; clear HI338; have HO_0 := n0_; have HO_6 := n1_; have HO_7 := n2_; have HO367 := n3_; have HO370 := n4_; have HB := n5_; have HI338 := n6_; clear n0_ n1_ n2_ n3_ n4_ n5_ n6_; (try clear hb); (try clear hb2); (try clear hk); (try clear hi); (try clear ho0); obtain ⟨Ao42, co42, eo42⟩ := Kd.R_slice HO370.out; subst eo42) | ((with_reducible refine gate_builtin (b := .append) (xs := #[.tmp 60, .tmp 61]) rfl ?_); (try (refine gate_guard (by rfl) ?_; dsimp only)); at_builtin; refine Kd.R_append_rows (Kd.int .i32) (w0 := w) w.heap.size rfl (.tmp 60) (.tmp 61) 23 21 (.int .i32 0) 4 rfl Try.underlying23 info21 rfl (by decide) (by omega) u6 x6_2 t368 _ _ _ (fun k_ => (w.heap.size ≤ k_) ∧ some k_ ≠ (.slice Ao42 t368.length co42 : Value).ownBlock) (fun _ => False) rfl rfl ?aO ?aR (fun _ _ h => h) (fun _ h => h.elim) ?aF ?aB ?aS ?aL ?_; (case aR => repeat (first | exact (Kd.R_reads' HO370.out).2.2 | (with_reducible refine Kd.C_alloc ?_ _) | (with_reducible refine Kd.C_drewN ?_ _) | (with_reducible refine Kd.C_drew ?_))); (case aB => exact (by repeat (first | (with_reducible first | exact HB.out | apply below_alloc | apply pw_below_drewN | apply below_drew1 | refine below_set ?_ (IsS35.ge HI338.out)) | exact HB.out))); (case aF => exact (fun k_ hk => ⟨(Nat.le_trans (below_size (by repeat (first | (with_reducible first | exact HB.out | apply below_alloc | apply pw_below_drewN | apply below_drew1 | refine below_set ?_ (IsS35.ge HI338.out)) | exact HB.out))) hk), Kd.fresh' (Kd.R_lt (by (with_reducible repeat (first | apply Kd.R_alloc | apply Kd.R_drewN | apply Kd.R_drew)); exact HO370.out)) k_ hk⟩)); (case aO => exact (by (with_reducible repeat (first | apply Kd.R_alloc | apply Kd.R_drewN | apply Kd.R_drew)); exact HO_6.out)); (case aS => exact (below_size (by repeat (first | (with_reducible first | exact HB.out | apply below_alloc | apply pw_below_drewN | apply below_drew1 | refine below_set ?_ (IsS35.ge HI338.out)) | exact HB.out)))); (case aL => have := LMc35.out; omega); intro v379 w41 ho hb hg hat; rw [← Ny378.out] at ho; have n0_ := Aside0.mk (Kd.V_afterv (ok := (fun k_ => (P0_ k_ ∨ w.heap.size ≤ k_) ∧ some k_ ≠ (.slice Ao42 t368.length co42 : Value).ownBlock ∧ k_ ≠ g338)) (by (with_reducible repeat (first | apply Kd.V_alloc | apply Kd.V_drewN | apply Kd.V_drew)); exact Kd.V_mono HO_0.out (fun _ hk => ⟨⟨hk.1.1, ⟨hk.2, hk.1.2.2⟩⟩, hk.1.2.1⟩)) hg hat); have n1_ := Aside0.mk (Kd.V_afterv (ok := (fun k_ => (P0_ k_ ∨ w.heap.size ≤ k_) ∧ some k_ ≠ (.slice Ao42 t368.length co42 : Value).ownBlock ∧ k_ ≠ g338)) (by (with_reducible repeat (first | apply Kd.V_alloc | apply Kd.V_drewN | apply Kd.V_drew)); exact Kd.V_mono HO_7.out (fun _ hk => ⟨⟨hk.1.1, ⟨hk.2, hk.1.2.2⟩⟩, hk.1.2.1⟩)) hg hat); have n2_ := Aside0.mk (IsS35.grown (by repeat (first | (with_reducible first | exact HI338.out | apply IsS35.alloc | apply IsS35.drewN | apply IsS35.drew | apply IsS35.set_0 | apply IsS35.set_1 | apply IsS35.set_2 | apply IsS35.set_3 | apply IsS35.set_4 | apply IsS35.set_5) | exact HI338.out)) hg (IsS35.own_ne HI338.out HO_6.out (by decide))); have n3_ := Aside0.mk (Kd.V_afterv (ok := (fun k_ => (P0_ k_ ∨ w.heap.size ≤ k_) ∧ some k_ ≠ (.slice Ao42 t368.length co42 : Value).ownBlock ∧ k_ ≠ g338)) (by (with_reducible repeat (first | apply Kd.V_alloc | apply Kd.V_drewN | apply Kd.V_drew)); exact Kd.V_mono HO367.out (fun _ hk => ⟨⟨hk.1.1, ⟨hk.2, hk.1.2.2⟩⟩, hk.1.2.1⟩)) hg hat); have n4_ := Aside0.mk (Kd.R_after (ok := (fun k_ => (w.heap.size ≤ k_))) (by (with_reducible repeat (first | apply Kd.R_alloc | apply Kd.R_drewN | apply Kd.R_drew)); exact Kd.R_mono HO370.out (fun _ hk => ⟨hk.1.1, hk.2⟩)) hg hat); have n5_ := Aside0.mk (hb); have n6_ := Aside0.mk (ho); clear HO_0; clear HO_7; clear HI338; clear HO367; clear HO370; clear HB; clear HO_6; have HO_0 := n0_; have HO_7 := n1_; have HI338 := n2_; have HO367 := n3_; have HO370 := n4_; have HB := n5_; have HO380 := n6_; clear n0_ n1_ n2_ n3_ n4_ n5_ n6_; clear ho hb hg hat; have q43 : ((ji30) : Int) ≤ ((x7_2.length : Int) : Int) := of_decide_eq_true (by first | (with_reducible assumption) | assumption); obtain ⟨i043, hi043, _, hsz43, _⟩ := info_parts info5; have hroom43 : x7_2.length ≤ co38 := (Kd.V_reads' HO_7.out).2.1; have hC43 : Kd.F (Kd.int .u8) _ _ Ao38 x7_2.length x7_2 := (Kd.V_at (base := w.heap.size) HO_7.out).2.2; have q043 : (0 : Int) ≤ ((ji30) : Int) := of_decide_eq_true (by first | (with_reducible assumption) | assumption); have hcut43 := cut_from (P := Try.prog) 22 5 .i64 Try.underlying22 hi043 1 hsz43 Ao38 x7_2.length co38 (ji30) q043 q43; have hr43 := Kd.F_cut (m := ((ji30) : Int).toNat) (c := co38) hC43 (by omega) hroom43; obtain ⟨A43, hA43⟩ : ∃ A1, A1 = (if co38 = ((ji30) : Int).toNat then Ao38 else (Ao38 : Option Addr).map (·.add (((ji30) : Int).toNat * 1))) := ⟨_, rfl⟩; obtain ⟨c43, hc43⟩ : ∃ c1, c1 = co38 - ((ji30) : Int).toNat := ⟨_, rfl⟩; have hy43 : y381.length = x7_2.length - ((ji30) : Int).toNat := (by rw [Ny381.out, List.length_drop] <;> omega); rw [show (x7_2).drop ((ji30) : Int).toNat = y381 from Ny381.out.symm] at hr43; replace hr43 : Kd.F (Kd.int .u8) _ _ A43 y381.length y381 := (by rw [hA43]; exact hr43); rw [← hy43, ← hA43, ← hc43] at hcut43; have HO385 := Aside0.mk (show Kd.V (Kd.int .u8) 5 _ w.heap.size _ (.slice A43 y381.length c43) y381 from Kd.V_mk (by rw [hy43, hc43]; exact Nat.sub_le_sub_right hroom43 _) hr43); have HC385 := Aside0.mk (show y381.length ≤ c43 from by rw [hy43, hc43]; exact Nat.sub_le_sub_right hroom43 _); clear hr43 hC43 hroom43 hi043 hsz43 hc43; have KY43 := Aside0.mk hy43; have KA43 := Aside0.mk hA43; clear hy43 hA43; replace q43 := eq_true q43))
                                go_roundg kj9
                                case measure => have := HJ2.out; have := HK2.out; have := HJ9.out; omega
                                case rel => exact ⟨(y378), (y381), (wrap64 (x8_2 + 1)), (t372), (t373), (t374), (t375), (t376), (t377), (by first | rfl | (simp; done) | (simp [*]; done)), H', ⟨by have := HJ2.out; have := HK2.out; have := HJ9.out; omega⟩, ⟨by (with_reducible repeat (first | apply Kd.V_alloc | apply Kd.V_drewN | apply Kd.V_drew)); exact Kd.V_mono HO_0.out (fun _ hk => ⟨hk.1.1, ⟨hk.2, hk.1.2.2⟩⟩)⟩, ⟨by (with_reducible repeat (first | apply Kd.R_alloc | apply Kd.R_drewN | apply Kd.R_drew)); exact Kd.R_mono HO380.out (fun _ hk => hk.1)⟩, ⟨by (with_reducible repeat (first | apply Kd.V_alloc | apply Kd.V_drewN | apply Kd.V_drew)); exact Kd.V_mono HO385.out (fun _ hk => ⟨hk.1.1, ⟨hk.2, hk.1.2.2⟩⟩)⟩, ⟨by repeat (first | (with_reducible first | exact HI338.out | apply IsS35.alloc | apply IsS35.drewN | apply IsS35.drew | apply IsS35.set_0 | apply IsS35.set_1 | apply IsS35.set_2 | apply IsS35.set_3 | apply IsS35.set_4 | apply IsS35.set_5) | exact HI338.out)⟩, ⟨by repeat (first | (with_reducible first | exact HB.out | apply below_alloc | apply pw_below_drewN | apply below_drew1 | refine below_set ?_ (IsS35.ge HI338.out)) | exact HB.out)⟩⟩
                              · rw [if_neg c35] at H
                                exact absurd H (by simp)
                            · rw [if_neg c34] at H
                              have c34b0 : (t371 == 0) = false := beq_eq_false_iff_ne.mpr c34
                              have c34b1 : (t371 != 0) = true := bne_iff_ne.mpr c34
                              exact absurd (HT0_.out.symm.trans (Option.some.inj H).symm) (by decide)
                          · rw [if_neg c32] at H
                            exact absurd H (by simp)
                        · rw [if_neg c31] at H
                          exact absurd H (by simp)
                    · rw [if_neg c15] at H
                      exact absurd H (by simp)
                  · rw [if_neg c14] at H
                    exact absurd H (by simp)
                · replace c13 := Bool.eq_false_iff.mpr c13
                  subst c13
                  have H1 : ((utf_Reader_Read.f kj9 x339000_2 x339001_2 x339002_2 x339003_2 x339004_2 x339005_2 x7_2).bind fun bt386 => ((utf_Reader_End.f bt386.2.2.1 bt386.2.2.2.1 bt386.2.2.2.2.1 bt386.2.2.2.2.2.1 bt386.2.2.2.2.2.2.1 bt386.2.2.2.2.2.2.2).bind fun bt396 => (if x6_2.length + bt386.1.length < 35184372088832 then ((some (x6_2 ++ bt386.1 : List Int)).bind fun y406 => (if y406.length + bt396.1.length < 35184372088832 then ((longlinelaw13_alive.f kj9).bind fun t412 => (if t412 = true then (if bt386.2.1 = 0 then (if bt396.2.1 = 0 then ((utf_Points.f kj9 l0).bind fun t413 => ((longlinelaw13_same.f kj9 (y406 ++ bt396.1) t413).bind fun t416 => (if t416 = true then ((utf_Reader_Waits.f bt396.2.2.1 bt396.2.2.2.1 bt396.2.2.2.2.1 bt396.2.2.2.2.2.1 bt396.2.2.2.2.2.2.1 bt396.2.2.2.2.2.2.2).bind fun bt417 => (some (bt417.1 == 0))) else (some false)))) else (some false)) else (some false)) else (some false))) else (none))) else (none)))) = some r := by rw [if_neg (show ¬ (false = true) by decide)] at H; exact H
                  clear H
                  have H := H1
                  clear H1
                  replace H := Option.bind_eq_some_iff.mp H
                  obtain ⟨⟨t386, t389, t390, t391, t392, t393, t394, t395⟩, A440, H⟩ := H
                  replace H : ((utf_Reader_End.f t390 t391 t392 t393 t394 t395).bind fun bt396 => (if x6_2.length + t386.length < 35184372088832 then ((some (x6_2 ++ t386 : List Int)).bind fun y406 => (if y406.length + bt396.1.length < 35184372088832 then ((longlinelaw13_alive.f kj9).bind fun t412 => (if t412 = true then (if t389 = 0 then (if bt396.2.1 = 0 then ((utf_Points.f kj9 l0).bind fun t413 => ((longlinelaw13_same.f kj9 (y406 ++ bt396.1) t413).bind fun t416 => (if t416 = true then ((utf_Reader_Waits.f bt396.2.2.1 bt396.2.2.2.1 bt396.2.2.2.2.1 bt396.2.2.2.2.2.1 bt396.2.2.2.2.2.2.1 bt396.2.2.2.2.2.2.2).bind fun bt417 => (some (bt417.1 == 0))) else (some false)))) else (some false)) else (some false)) else (some false))) else (none))) else (none))) = some r := H
                  have A44 := Aside0.mk A440
                  clear A440
                  replace H := Option.bind_eq_some_iff.mp H
                  obtain ⟨⟨t396, t399, t400, t401, t402, t403, t404, t405⟩, A450, H⟩ := H
                  replace H : (if x6_2.length + t386.length < 35184372088832 then ((some (x6_2 ++ t386 : List Int)).bind fun y406 => (if y406.length + t396.length < 35184372088832 then ((longlinelaw13_alive.f kj9).bind fun t412 => (if t412 = true then (if t389 = 0 then (if t399 = 0 then ((utf_Points.f kj9 l0).bind fun t413 => ((longlinelaw13_same.f kj9 (y406 ++ t396) t413).bind fun t416 => (if t416 = true then ((utf_Reader_Waits.f t400 t401 t402 t403 t404 t405).bind fun bt417 => (some (bt417.1 == 0))) else (some false)))) else (some false)) else (some false)) else (some false))) else (none))) else (none)) = some r := H
                  have A45 := Aside0.mk A450
                  clear A450
                  by_cases c46 : x6_2.length + t386.length < 35184372088832
                  · rw [if_pos c46] at H
                    have LMc46 := Aside0.mk c46
                    clear c46
                    obtain ⟨y406, hy406⟩ : ∃ y_ : List Int, y_ = (x6_2 ++ t386) := ⟨_, rfl⟩
                    replace H : (if y406.length + t396.length < 35184372088832 then ((longlinelaw13_alive.f kj9).bind fun t412 => (if t412 = true then (if t389 = 0 then (if t399 = 0 then ((utf_Points.f kj9 l0).bind fun t413 => ((longlinelaw13_same.f kj9 (y406 ++ t396) t413).bind fun t416 => (if t416 = true then ((utf_Reader_Waits.f t400 t401 t402 t403 t404 t405).bind fun bt417 => (some (bt417.1 == 0))) else (some false)))) else (some false)) else (some false)) else (some false))) else (none)) = some r := by first | (rw [hy406]; with_reducible exact H) | (have H2_ := (Option.bind_some _ _).symm.trans H; rw [hy406]; with_reducible exact H2_) | (have H2_ := (Option.bind_some _ _).symm.trans H; with_reducible exact H2_) | with_reducible exact H | (rw [hy406]; exact H) | exact H
                    have Ny406 := Aside0.mk hy406
                    clear hy406
                    by_cases c47 : y406.length + t396.length < 35184372088832
                    · rw [if_pos c47] at H
                      have LMc47 := Aside0.mk c47
                      clear c47
                      obtain ⟨y409, hy409⟩ : ∃ y_ : List Int, y_ = (y406 ++ t396) := ⟨_, rfl⟩
                      replace H : ((longlinelaw13_alive.f kj9).bind fun t412 => (if t412 = true then (if t389 = 0 then (if t399 = 0 then ((utf_Points.f kj9 l0).bind fun t413 => ((longlinelaw13_same.f kj9 y409 t413).bind fun t416 => (if t416 = true then ((utf_Reader_Waits.f t400 t401 t402 t403 t404 t405).bind fun bt417 => (some (bt417.1 == 0))) else (some false)))) else (some false)) else (some false)) else (some false))) = some r := by first | (rw [hy409]; with_reducible exact H) | (have H2_ := (Option.bind_some _ _).symm.trans H; rw [hy409]; with_reducible exact H2_) | (have H2_ := (Option.bind_some _ _).symm.trans H; with_reducible exact H2_) | with_reducible exact H | (rw [hy409]; exact H) | exact H
                      have Ny409 := Aside0.mk hy409
                      clear hy409
                      replace H := Option.bind_eq_some_iff.mp H
                      obtain ⟨t412, A480, H⟩ := H
                      replace H : (if t412 = true then (if t389 = 0 then (if t399 = 0 then ((utf_Points.f kj9 l0).bind fun t413 => ((longlinelaw13_same.f kj9 y409 t413).bind fun t416 => (if t416 = true then ((utf_Reader_Waits.f t400 t401 t402 t403 t404 t405).bind fun bt417 => (some (bt417.1 == 0))) else (some false)))) else (some false)) else (some false)) else (some false)) = some r := H
                      have A48 := Aside0.mk A480
                      clear A480
                      by_cases c49 : t412 = true
                      · subst c49
                        have H1 : (if t389 = 0 then (if t399 = 0 then ((utf_Points.f kj9 l0).bind fun t413 => ((longlinelaw13_same.f kj9 y409 t413).bind fun t416 => (if t416 = true then ((utf_Reader_Waits.f t400 t401 t402 t403 t404 t405).bind fun bt417 => (some (bt417.1 == 0))) else (some false)))) else (some false)) else (some false)) = some r := by rw [if_pos rfl] at H; exact H
                        clear H
                        have H := H1
                        clear H1
                        by_cases c50 : t389 = 0
                        · rw [if_pos c50] at H
                          have c50b0 : (t389 == 0) = true := beq_iff_eq.mpr c50
                          have c50b1 : (t389 != 0) = false := bne_eq_false_iff_eq.mpr c50
                          clear c50
                          by_cases c51 : t399 = 0
                          · rw [if_pos c51] at H
                            have c51b0 : (t399 == 0) = true := beq_iff_eq.mpr c51
                            have c51b1 : (t399 != 0) = false := bne_eq_false_iff_eq.mpr c51
                            clear c51
                            replace H := Option.bind_eq_some_iff.mp H
                            obtain ⟨t413, A520, H⟩ := H
                            replace H : ((longlinelaw13_same.f kj9 y409 t413).bind fun t416 => (if t416 = true then ((utf_Reader_Waits.f t400 t401 t402 t403 t404 t405).bind fun bt417 => (some (bt417.1 == 0))) else (some false))) = some r := H
                            have A52 := Aside0.mk A520
                            clear A520
                            replace H := Option.bind_eq_some_iff.mp H
                            obtain ⟨t416, A530, H⟩ := H
                            replace H : (if t416 = true then ((utf_Reader_Waits.f t400 t401 t402 t403 t404 t405).bind fun bt417 => (some (bt417.1 == 0))) else (some false)) = some r := H
                            have A53 := Aside0.mk A530
                            clear A530
                            by_cases c54 : t416 = true
                            · subst c54
                              have H1 : ((utf_Reader_Waits.f t400 t401 t402 t403 t404 t405).bind fun bt417 => (some (bt417.1 == 0))) = some r := by rw [if_pos rfl] at H; exact H
                              clear H
                              have H := H1
                              clear H1
                              replace H := Option.bind_eq_some_iff.mp H
                              obtain ⟨⟨t417, t418, t419, t420, t421, t422, t423⟩, A550, H⟩ := H
                              replace H : (some (t417 == 0)) = some r := H
                              have A55 := Aside0.mk A550
                              clear A550
                              obtain rfl := Option.some.inj H
                              obtain ⟨Ao56, co56, eo56⟩ := Kd.V_slice HO_7.out
                              subst eo56
                              go_wp2_with (first | ((with_reducible refine gate_callee (f := 9) rfl ?_); refine goesL_ (some 69) rfl rfl Try.func9 (by kernel_rfl) rfl #[.pointer (some ⟨g338, 0, none⟩), .slice Ao56 x7_2.length co56] rfl (by (try simp only [List.map_toArray, List.map_cons, List.map_nil]); first | done | rfl | (simp only [List.length_drop, List.length_take]; rfl)) ?_; (with_reducible refine (utf_Reader_Read.calls kj9 g338 x339000_2 x339001_2 x339002_2 x339003_2 x339004_2 x339005_2 _ _ x7_2 t386 t389 t390 t391 t392 t393 t394 t395 w _ ?side1 ?side2 ?side3 ?side4 ?side5 A44.out).mono ?_); (case side1 => repeat (first | (with_reducible first | exact HI338.out | apply IsS35.alloc | apply IsS35.drewN | apply IsS35.drew | apply IsS35.set_0 | apply IsS35.set_1 | apply IsS35.set_2 | apply IsS35.set_3 | apply IsS35.set_4 | apply IsS35.set_5) | exact HI338.out)); (case side2 => repeat (first | (with_reducible first | exact HB.out | apply below_alloc | apply pw_below_drewN | apply below_drew1 | refine below_set ?_ (IsS35.ge HI338.out)) | exact HB.out)); (case side3 => repeat (first | exact (Kd.V_reads' HO_7.out).2.2 | (with_reducible refine Kd.C_alloc ?_ _) | (with_reducible refine Kd.C_drewN ?_ _) | (with_reducible refine Kd.C_drew ?_))); (case side4 => exact (Kd.V_reads' HO_7.out).2.1); (case side5 => intro ad he hn; have h_ := Kd.F_in (Kd.V_F HO_7.out) he hn Nat.zero_lt_one; exact h_.2.2); rintro e w57 ⟨v387, rfl, ho0, hi, hb, hk⟩; refine ⟨_, rfl, ?_⟩; have n0_ := Aside0.mk (Kd.V_mono (Kd.V_told (Kd.V_oldK (Kd.V_mono (ok := fun k_ => (((P0_ k_ ∨ w.heap.size ≤ k_)) ∧ (some k_ ≠ (u6 : Value).ownBlock ∧ k_ ≠ g338))) (by (with_reducible repeat (first | apply Kd.V_alloc | apply Kd.V_drewN | apply Kd.V_drew)); exact HO_0.out) (fun k_ hk_ => (⟨hk_, hk_.2.2⟩ : _ ∧ k_ ≠ g338))) hk) (Kd.R_base ho0)) (fun _ h_ => h_.1)); have n1_ := Aside0.mk (Kd.R_mono (Kd.R_told (Kd.R_oldK (IsS35.apart (show IsS35 w _ g338 x339000_2 x339001_2 x339002_2 x339003_2 x339004_2 x339005_2 from by repeat (first | (with_reducible first | exact HI338.out | apply IsS35.alloc | apply IsS35.drewN | apply IsS35.drew | apply IsS35.set_0 | apply IsS35.set_1 | apply IsS35.set_2 | apply IsS35.set_3 | apply IsS35.set_4 | apply IsS35.set_5) | exact HI338.out)) (by (with_reducible repeat (first | apply Kd.R_alloc | apply Kd.R_drewN | apply Kd.R_drew)); exact HO_6.out) (by decide)) hk) (Kd.R_base ho0)) (fun _ h_ => h_.1)); have n2_ := Aside0.mk (Kd.V_mono (Kd.V_told (Kd.V_oldK (Kd.V_mono (ok := fun k_ => (((P0_ k_ ∨ w.heap.size ≤ k_)) ∧ (some k_ ≠ (u6 : Value).ownBlock ∧ k_ ≠ g338))) (by (with_reducible repeat (first | apply Kd.V_alloc | apply Kd.V_drewN | apply Kd.V_drew)); exact HO_7.out) (fun k_ hk_ => (⟨hk_, hk_.2.2⟩ : _ ∧ k_ ≠ g338))) hk) (Kd.R_base ho0)) (fun _ h_ => h_.1)); have n3_ := Aside0.mk (Kd.R_lower (Kd.R_new' (Kd.R_newM (M := fun k_ => (w.heap.size ≤ k_)) ho0 (below_size (by repeat (first | (with_reducible first | exact HB.out | apply below_alloc | apply pw_below_drewN | apply below_drew1 | refine below_set ?_ (IsS35.ge HI338.out)) | exact HB.out))) (fun k_ h_ => h_)) (Kd.R_lt (by (with_reducible repeat (first | apply Kd.R_alloc | apply Kd.R_drewN | apply Kd.R_drew)); exact HO_6.out))) (below_size (by repeat (first | (with_reducible first | exact HB.out | apply below_alloc | apply pw_below_drewN | apply below_drew1 | refine below_set ?_ (IsS35.ge HI338.out)) | exact HB.out)))); have n4_ := Aside0.mk (hb); have n5_ := Aside0.mk (hi); clear HO_0; clear HO_6; clear HO_7; clear HB; clear HI338; have HO_0 := n0_; have HO_6 := n1_; have HO_7 := n2_; have HO388 := n3_; have HB := n4_; have HI338 := n5_; clear n0_ n1_ n2_ n3_ n4_ n5_; (try clear hb); (try clear hb2); (try clear hk); (try clear hi); (try clear ho0)) | ((with_reducible refine gate_callee (f := 13) rfl ?_); refine goesL_ (some 74) rfl rfl Try.func13 (by kernel_rfl) rfl #[.pointer (some ⟨g338, 0, none⟩)] rfl (by (try simp only [List.map_toArray, List.map_cons, List.map_nil]); first | done | rfl | (simp only [List.length_drop, List.length_take]; rfl)) ?_; (with_reducible refine (utf_Reader_End.calls g338 t390 t391 t392 t393 t394 t395 t396 t399 t400 t401 t402 t403 t404 t405 w _ ?side1 ?side2 A45.out).mono ?_); (case side1 => repeat (first | (with_reducible first | exact HI338.out | apply IsS35.alloc | apply IsS35.drewN | apply IsS35.drew | apply IsS35.set_0 | apply IsS35.set_1 | apply IsS35.set_2 | apply IsS35.set_3 | apply IsS35.set_4 | apply IsS35.set_5) | exact HI338.out)); (case side2 => repeat (first | (with_reducible first | exact HB.out | apply below_alloc | apply pw_below_drewN | apply below_drew1 | refine below_set ?_ (IsS35.ge HI338.out)) | exact HB.out)); rintro e w58 ⟨v397, rfl, ho0, hi, hb, hk⟩; refine ⟨_, rfl, ?_⟩; have n0_ := Aside0.mk (Kd.V_mono (Kd.V_told (Kd.V_oldK (Kd.V_mono (ok := fun k_ => ((((P0_ k_ ∨ w.heap.size ≤ k_)) ∧ (some k_ ≠ (u6 : Value).ownBlock ∧ k_ ≠ g338)) ∧ some k_ ≠ (v387 : Value).ownBlock)) (by (with_reducible repeat (first | apply Kd.V_alloc | apply Kd.V_drewN | apply Kd.V_drew)); exact HO_0.out) (fun k_ hk_ => (⟨hk_, hk_.1.2.2⟩ : _ ∧ k_ ≠ g338))) hk) (Kd.R_base ho0)) (fun _ h_ => h_.1)); have n1_ := Aside0.mk (Kd.R_mono (Kd.R_told (Kd.R_oldK (IsS35.apart (show IsS35 w _ g338 t390 t391 t392 t393 t394 t395 from by repeat (first | (with_reducible first | exact HI338.out | apply IsS35.alloc | apply IsS35.drewN | apply IsS35.drew | apply IsS35.set_0 | apply IsS35.set_1 | apply IsS35.set_2 | apply IsS35.set_3 | apply IsS35.set_4 | apply IsS35.set_5) | exact HI338.out)) (by (with_reducible repeat (first | apply Kd.R_alloc | apply Kd.R_drewN | apply Kd.R_drew)); exact HO_6.out) (by decide)) hk) (Kd.R_base ho0)) (fun _ h_ => h_.1)); have n2_ := Aside0.mk (Kd.V_mono (Kd.V_told (Kd.V_oldK (Kd.V_mono (ok := fun k_ => ((((P0_ k_ ∨ w.heap.size ≤ k_)) ∧ (some k_ ≠ (u6 : Value).ownBlock ∧ k_ ≠ g338)) ∧ some k_ ≠ (v387 : Value).ownBlock)) (by (with_reducible repeat (first | apply Kd.V_alloc | apply Kd.V_drewN | apply Kd.V_drew)); exact HO_7.out) (fun k_ hk_ => (⟨hk_, hk_.1.2.2⟩ : _ ∧ k_ ≠ g338))) hk) (Kd.R_base ho0)) (fun _ h_ => h_.1)); have n3_ := Aside0.mk (Kd.R_mono (Kd.R_told (Kd.R_oldK (IsS35.apart (show IsS35 w _ g338 t390 t391 t392 t393 t394 t395 from by repeat (first | (with_reducible first | exact HI338.out | apply IsS35.alloc | apply IsS35.drewN | apply IsS35.drew | apply IsS35.set_0 | apply IsS35.set_1 | apply IsS35.set_2 | apply IsS35.set_3 | apply IsS35.set_4 | apply IsS35.set_5) | exact HI338.out)) (by (with_reducible repeat (first | apply Kd.R_alloc | apply Kd.R_drewN | apply Kd.R_drew)); exact HO388.out) (by decide)) hk) (Kd.R_base ho0)) (fun _ h_ => h_.1)); have n4_ := Aside0.mk (Kd.R_lower (Kd.R_new' (Kd.R_new' (Kd.R_newM (M := fun k_ => (w.heap.size ≤ k_)) ho0 (below_size (by repeat (first | (with_reducible first | exact HB.out | apply below_alloc | apply pw_below_drewN | apply below_drew1 | refine below_set ?_ (IsS35.ge HI338.out)) | exact HB.out))) (fun k_ h_ => h_)) (Kd.R_lt (by (with_reducible repeat (first | apply Kd.R_alloc | apply Kd.R_drewN | apply Kd.R_drew)); exact HO_6.out))) (Kd.R_lt (by (with_reducible repeat (first | apply Kd.R_alloc | apply Kd.R_drewN | apply Kd.R_drew)); exact HO388.out))) (below_size (by repeat (first | (with_reducible first | exact HB.out | apply below_alloc | apply pw_below_drewN | apply below_drew1 | refine below_set ?_ (IsS35.ge HI338.out)) | exact HB.out)))); have n5_ := Aside0.mk (hb); have n6_ := Aside0.mk (hi); clear HO_0; clear HO_6; clear HO_7; clear HO388; clear HB; clear HI338; have HO_0 := n0_; have HO_6 := n1_; have HO_7 := n2_; have HO388 := n3_; have HO398 := n4_; have HB := n5_; have HI338 := n6_; clear n0_ n1_ n2_ n3_ n4_ n5_ n6_; (try clear hb); (try clear hb2); (try clear hk); (try clear hi); (try clear ho0); obtain ⟨Ao60, co60, eo60⟩ := Kd.R_slice HO388.out; subst eo60) | ((with_reducible refine gate_builtin (b := .append) (xs := #[.tmp 77, .tmp 78]) rfl ?_); (try (refine gate_guard (by rfl) ?_; dsimp only)); at_builtin; refine Kd.R_append_rows (Kd.int .i32) (w0 := w) w.heap.size rfl (.tmp 77) (.tmp 78) 23 21 (.int .i32 0) 4 rfl Try.underlying23 info21 rfl (by decide) (by omega) u6 x6_2 t386 _ _ _ (fun k_ => (w.heap.size ≤ k_) ∧ some k_ ≠ (.slice Ao60 t386.length co60 : Value).ownBlock ∧ some k_ ≠ (v397 : Value).ownBlock) (fun _ => False) rfl rfl ?aO ?aR (fun _ _ h => h) (fun _ h => h.elim) ?aF ?aB ?aS ?aL ?_; (case aR => repeat (first | exact (Kd.R_reads' HO388.out).2.2 | (with_reducible refine Kd.C_alloc ?_ _) | (with_reducible refine Kd.C_drewN ?_ _) | (with_reducible refine Kd.C_drew ?_))); (case aB => exact (by repeat (first | (with_reducible first | exact HB.out | apply below_alloc | apply pw_below_drewN | apply below_drew1 | refine below_set ?_ (IsS35.ge HI338.out)) | exact HB.out))); (case aF => exact (fun k_ hk => ⟨(Nat.le_trans (below_size (by repeat (first | (with_reducible first | exact HB.out | apply below_alloc | apply pw_below_drewN | apply below_drew1 | refine below_set ?_ (IsS35.ge HI338.out)) | exact HB.out))) hk), Kd.fresh' (Kd.R_lt (by (with_reducible repeat (first | apply Kd.R_alloc | apply Kd.R_drewN | apply Kd.R_drew)); exact HO388.out)) k_ hk, Kd.fresh' (Kd.R_lt (by (with_reducible repeat (first | apply Kd.R_alloc | apply Kd.R_drewN | apply Kd.R_drew)); exact HO398.out)) k_ hk⟩)); (case aO => exact (by (with_reducible repeat (first | apply Kd.R_alloc | apply Kd.R_drewN | apply Kd.R_drew)); exact Kd.R_mono HO_6.out (fun _ hk => ⟨hk.1.1, ⟨hk.1.2, hk.2⟩⟩))); (case aS => exact (below_size (by repeat (first | (with_reducible first | exact HB.out | apply below_alloc | apply pw_below_drewN | apply below_drew1 | refine below_set ?_ (IsS35.ge HI338.out)) | exact HB.out)))); (case aL => have := LMc46.out; omega); intro v407 w59 ho hb hg hat; rw [← Ny406.out] at ho; have n0_ := Aside0.mk (Kd.V_afterv (ok := (fun k_ => (P0_ k_ ∨ w.heap.size ≤ k_) ∧ some k_ ≠ (.slice Ao60 t386.length co60 : Value).ownBlock ∧ some k_ ≠ (v397 : Value).ownBlock ∧ k_ ≠ g338)) (by (with_reducible repeat (first | apply Kd.V_alloc | apply Kd.V_drewN | apply Kd.V_drew)); exact Kd.V_mono HO_0.out (fun _ hk => ⟨⟨hk.1.1.1, ⟨hk.1.2, ⟨hk.2, hk.1.1.2.2⟩⟩⟩, hk.1.1.2.1⟩)) hg hat); have n1_ := Aside0.mk (Kd.V_afterv (ok := (fun k_ => (P0_ k_ ∨ w.heap.size ≤ k_) ∧ some k_ ≠ (.slice Ao60 t386.length co60 : Value).ownBlock ∧ some k_ ≠ (v397 : Value).ownBlock ∧ k_ ≠ g338)) (by (with_reducible repeat (first | apply Kd.V_alloc | apply Kd.V_drewN | apply Kd.V_drew)); exact Kd.V_mono HO_7.out (fun _ hk => ⟨⟨hk.1.1.1, ⟨hk.1.2, ⟨hk.2, hk.1.1.2.2⟩⟩⟩, hk.1.1.2.1⟩)) hg hat); have n2_ := Aside0.mk (IsS35.grown (by repeat (first | (with_reducible first | exact HI338.out | apply IsS35.alloc | apply IsS35.drewN | apply IsS35.drew | apply IsS35.set_0 | apply IsS35.set_1 | apply IsS35.set_2 | apply IsS35.set_3 | apply IsS35.set_4 | apply IsS35.set_5) | exact HI338.out)) hg (IsS35.own_ne HI338.out HO_6.out (by decide))); have n3_ := Aside0.mk (Kd.R_after (ok := (fun k_ => (w.heap.size ≤ k_) ∧ some k_ ≠ (v397 : Value).ownBlock)) (by (with_reducible repeat (first | apply Kd.R_alloc | apply Kd.R_drewN | apply Kd.R_drew)); exact Kd.R_mono HO388.out (fun _ hk => ⟨⟨hk.1.1.1, hk.2⟩, hk.1.2⟩)) hg hat); have n4_ := Aside0.mk (Kd.R_after (ok := (fun k_ => (w.heap.size ≤ k_) ∧ some k_ ≠ (.slice Ao60 t386.length co60 : Value).ownBlock)) (by (with_reducible repeat (first | apply Kd.R_alloc | apply Kd.R_drewN | apply Kd.R_drew)); exact Kd.R_mono HO398.out (fun _ hk => ⟨⟨hk.1.1.1, hk.2⟩, hk.1.2⟩)) hg hat); have n5_ := Aside0.mk (hb); have n6_ := Aside0.mk (ho); clear HO_0; clear HO_7; clear HI338; clear HO388; clear HO398; clear HB; clear HO_6; have HO_0 := n0_; have HO_7 := n1_; have HI338 := n2_; have HO388 := n3_; have HO398 := n4_; have HB := n5_; have HO408 := n6_; clear n0_ n1_ n2_ n3_ n4_ n5_ n6_; clear ho hb hg hat; obtain ⟨Ao62, co62, eo62⟩ := Kd.R_slice HO398.out; subst eo62) | ((with_reducible refine gate_builtin (b := .append) (xs := #[.tmp 79, .tmp 80]) rfl ?_); (try (refine gate_guard (by rfl) ?_; dsimp only)); at_builtin; refine Kd.R_append_rows (Kd.int .i32) (w0 := w) w.heap.size rfl (.tmp 79) (.tmp 80) 23 21 (.int .i32 0) 4 rfl Try.underlying23 info21 rfl (by decide) (by omega) v407 y406 t396 _ _ _ (fun k_ => (w.heap.size ≤ k_) ∧ some k_ ≠ (.slice Ao60 t386.length co60 : Value).ownBlock ∧ some k_ ≠ (.slice Ao62 t396.length co62 : Value).ownBlock) (fun _ => False) rfl rfl ?aO ?aR (fun _ _ h => h) (fun _ h => h.elim) ?aF ?aB ?aS ?aL ?_; (case aR => repeat (first | exact (Kd.R_reads' HO398.out).2.2 | (with_reducible refine Kd.C_alloc ?_ _) | (with_reducible refine Kd.C_drewN ?_ _) | (with_reducible refine Kd.C_drew ?_))); (case aB => exact (by repeat (first | (with_reducible first | exact HB.out | apply below_alloc | apply pw_below_drewN | apply below_drew1 | refine below_set ?_ (IsS35.ge HI338.out)) | exact HB.out))); (case aF => exact (fun k_ hk => ⟨(Nat.le_trans (below_size (by repeat (first | (with_reducible first | exact HB.out | apply below_alloc | apply pw_below_drewN | apply below_drew1 | refine below_set ?_ (IsS35.ge HI338.out)) | exact HB.out))) hk), Kd.fresh' (Kd.R_lt (by (with_reducible repeat (first | apply Kd.R_alloc | apply Kd.R_drewN | apply Kd.R_drew)); exact HO388.out)) k_ hk, Kd.fresh' (Kd.R_lt (by (with_reducible repeat (first | apply Kd.R_alloc | apply Kd.R_drewN | apply Kd.R_drew)); exact HO398.out)) k_ hk⟩)); (case aO => exact (by (with_reducible repeat (first | apply Kd.R_alloc | apply Kd.R_drewN | apply Kd.R_drew)); exact HO408.out)); (case aS => exact (below_size (by repeat (first | (with_reducible first | exact HB.out | apply below_alloc | apply pw_below_drewN | apply below_drew1 | refine below_set ?_ (IsS35.ge HI338.out)) | exact HB.out)))); (case aL => have := LMc47.out; omega); intro v410 w61 ho hb hg hat; rw [← Ny409.out] at ho; have n0_ := Aside0.mk (Kd.V_afterv (ok := (fun k_ => (P0_ k_ ∨ w.heap.size ≤ k_) ∧ some k_ ≠ (.slice Ao60 t386.length co60 : Value).ownBlock ∧ some k_ ≠ (.slice Ao62 t396.length co62 : Value).ownBlock ∧ k_ ≠ g338)) (by (with_reducible repeat (first | apply Kd.V_alloc | apply Kd.V_drewN | apply Kd.V_drew)); exact HO_0.out) hg hat); have n1_ := Aside0.mk (Kd.V_afterv (ok := (fun k_ => (P0_ k_ ∨ w.heap.size ≤ k_) ∧ some k_ ≠ (.slice Ao60 t386.length co60 : Value).ownBlock ∧ some k_ ≠ (.slice Ao62 t396.length co62 : Value).ownBlock ∧ k_ ≠ g338)) (by (with_reducible repeat (first | apply Kd.V_alloc | apply Kd.V_drewN | apply Kd.V_drew)); exact HO_7.out) hg hat); have n2_ := Aside0.mk (IsS35.grown (by repeat (first | (with_reducible first | exact HI338.out | apply IsS35.alloc | apply IsS35.drewN | apply IsS35.drew | apply IsS35.set_0 | apply IsS35.set_1 | apply IsS35.set_2 | apply IsS35.set_3 | apply IsS35.set_4 | apply IsS35.set_5) | exact HI338.out)) hg (IsS35.own_ne HI338.out HO408.out (by decide))); have n3_ := Aside0.mk (Kd.R_after (ok := (fun k_ => (w.heap.size ≤ k_) ∧ some k_ ≠ (.slice Ao62 t396.length co62 : Value).ownBlock)) (by (with_reducible repeat (first | apply Kd.R_alloc | apply Kd.R_drewN | apply Kd.R_drew)); exact HO388.out) hg hat); have n4_ := Aside0.mk (Kd.R_after (ok := (fun k_ => (w.heap.size ≤ k_) ∧ some k_ ≠ (.slice Ao60 t386.length co60 : Value).ownBlock)) (by (with_reducible repeat (first | apply Kd.R_alloc | apply Kd.R_drewN | apply Kd.R_drew)); exact HO398.out) hg hat); have n5_ := Aside0.mk (hb); have n6_ := Aside0.mk (ho); clear HO_0; clear HO_7; clear HI338; clear HO388; clear HO398; clear HB; clear HO408; have HO_0 := n0_; have HO_7 := n1_; have HI338 := n2_; have HO388 := n3_; have HO398 := n4_; have HB := n5_; have HO411 := n6_; clear n0_ n1_ n2_ n3_ n4_ n5_ n6_; clear ho hb hg hat) | ((with_reducible refine gate_callee (f := 7) rfl ?_); refine goesL_ (some 82) rfl rfl Try.func7 (by kernel_rfl) rfl #[] rfl (by (try simp only [List.map_toArray, List.map_cons, List.map_nil]); first | done | rfl | (simp only [List.length_drop, List.length_take]; rfl)) ?_; (with_reducible refine (longlinelaw13_alive.calls kj9  true _ A48.out).mono ?_); rintro e w63 ⟨rfl, hb⟩; refine ⟨_, rfl, ?_⟩; have n0_ := Aside0.mk (Kd.V_below (by (with_reducible repeat (first | apply Kd.V_alloc | apply Kd.V_drewN | apply Kd.V_drew)); exact HO_0.out) hb); have n1_ := Aside0.mk (Kd.V_below (by (with_reducible repeat (first | apply Kd.V_alloc | apply Kd.V_drewN | apply Kd.V_drew)); exact HO_7.out) hb); have n2_ := Aside0.mk (Kd.R_below (by (with_reducible repeat (first | apply Kd.R_alloc | apply Kd.R_drewN | apply Kd.R_drew)); exact HO388.out) hb); have n3_ := Aside0.mk (Kd.R_below (by (with_reducible repeat (first | apply Kd.R_alloc | apply Kd.R_drewN | apply Kd.R_drew)); exact HO398.out) hb); have n4_ := Aside0.mk (Kd.R_below (by (with_reducible repeat (first | apply Kd.R_alloc | apply Kd.R_drewN | apply Kd.R_drew)); exact HO411.out) hb); have n5_ := Aside0.mk (IsS35.below (by repeat (first | (with_reducible first | exact HI338.out | apply IsS35.alloc | apply IsS35.drewN | apply IsS35.drew | apply IsS35.set_0 | apply IsS35.set_1 | apply IsS35.set_2 | apply IsS35.set_3 | apply IsS35.set_4 | apply IsS35.set_5) | exact HI338.out)) hb); have n6_ := Aside0.mk (below_step (by repeat (first | (with_reducible first | exact HB.out | apply below_alloc | apply pw_below_drewN | apply below_drew1 | refine below_set ?_ (IsS35.ge HI338.out)) | exact HB.out)) hb); clear HO_0; clear HO_7; clear HO388; clear HO398; clear HO411; clear HI338; clear HB; have HO_0 := n0_; have HO_7 := n1_; have HO388 := n2_; have HO398 := n3_; have HO411 := n4_; have HI338 := n5_; have HB := n6_; clear n0_ n1_ n2_ n3_ n4_ n5_ n6_; (try clear hb); (try clear hb2); (try clear hk); (try clear hi)) | (go_at_call 14; (with_reducible refine (utf_Points.calls kj9 _ _ l0 t413 _ ?side1 ?side2 A52.out).mono ?_); (case side1 => repeat (first | exact (Kd.V_reads' HO_0.out).2.2 | (with_reducible refine Kd.C_alloc ?_ _) | (with_reducible refine Kd.C_drewN ?_ _) | (with_reducible refine Kd.C_drew ?_))); (case side2 => exact (Kd.V_reads' HO_0.out).2.1); rintro e w64 ⟨v414, rfl, ho0, hb⟩; have n0_ := Aside0.mk (Kd.V_elder' (by (with_reducible repeat (first | apply Kd.V_alloc | apply Kd.V_drewN | apply Kd.V_drew)); exact HO_0.out) (Kd.R_base ho0) hb); have n1_ := Aside0.mk (Kd.V_elder' (by (with_reducible repeat (first | apply Kd.V_alloc | apply Kd.V_drewN | apply Kd.V_drew)); exact HO_7.out) (Kd.R_base ho0) hb); have n2_ := Aside0.mk (Kd.R_elder' (by (with_reducible repeat (first | apply Kd.R_alloc | apply Kd.R_drewN | apply Kd.R_drew)); exact HO388.out) (Kd.R_base ho0) hb); have n3_ := Aside0.mk (Kd.R_elder' (by (with_reducible repeat (first | apply Kd.R_alloc | apply Kd.R_drewN | apply Kd.R_drew)); exact HO398.out) (Kd.R_base ho0) hb); have n4_ := Aside0.mk (Kd.R_elder' (by (with_reducible repeat (first | apply Kd.R_alloc | apply Kd.R_drewN | apply Kd.R_drew)); exact HO411.out) (Kd.R_base ho0) hb); have n5_ := Aside0.mk (Kd.R_lower (Kd.R_new' (Kd.R_new' (Kd.R_new' (Kd.R_newM (M := fun k_ => (w.heap.size ≤ k_)) ho0 (below_size (by repeat (first | (with_reducible first | exact HB.out | apply below_alloc | apply pw_below_drewN | apply below_drew1 | refine below_set ?_ (IsS35.ge HI338.out)) | exact HB.out))) (fun k_ h_ => h_)) (Kd.R_lt (by (with_reducible repeat (first | apply Kd.R_alloc | apply Kd.R_drewN | apply Kd.R_drew)); exact HO388.out))) (Kd.R_lt (by (with_reducible repeat (first | apply Kd.R_alloc | apply Kd.R_drewN | apply Kd.R_drew)); exact HO398.out))) (Kd.R_lt (by (with_reducible repeat (first | apply Kd.R_alloc | apply Kd.R_drewN | apply Kd.R_drew)); exact HO411.out))) (below_size (by repeat (first | (with_reducible first | exact HB.out | apply below_alloc | apply pw_below_drewN | apply below_drew1 | refine below_set ?_ (IsS35.ge HI338.out)) | exact HB.out)))); have n6_ := Aside0.mk (IsS35.below (by repeat (first | (with_reducible first | exact HI338.out | apply IsS35.alloc | apply IsS35.drewN | apply IsS35.drew | apply IsS35.set_0 | apply IsS35.set_1 | apply IsS35.set_2 | apply IsS35.set_3 | apply IsS35.set_4 | apply IsS35.set_5) | exact HI338.out)) hb); have n7_ := Aside0.mk (below_step (by repeat (first | (with_reducible first | exact HB.out | apply below_alloc | apply pw_below_drewN | apply below_drew1 | refine below_set ?_ (IsS35.ge HI338.out)) | exact HB.out)) hb); clear HO_0; clear HO_7; clear HO388; clear HO398; clear HO411; clear HI338; clear HB; have HO_0 := n0_; have HO_7 := n1_; have HO388 := n2_; have HO398 := n3_; have HO411 := n4_; have HO415 := n5_; have HI338 := n6_; have HB := n7_; clear n0_ n1_ n2_ n3_ n4_ n5_ n6_ n7_; (try clear hb); (try clear hb2); (try clear hk); (try clear hi); (try clear ho0); obtain ⟨Ao65, co65, eo65⟩ := Kd.R_slice HO411.out; subst eo65; obtain ⟨Ao66, co66, eo66⟩ := Kd.R_slice HO415.out; subst eo66) | (go_at_call 11; (with_reducible refine (longlinelaw13_same.calls kj9 _ _ y409 _ _ t413 true _ ?side1 ?side2 ?side3 ?side4 A53.out).mono ?_); (case side1 => repeat (first | exact (Kd.R_reads' HO411.out).2.2 | (with_reducible refine Kd.C_alloc ?_ _) | (with_reducible refine Kd.C_drewN ?_ _) | (with_reducible refine Kd.C_drew ?_))); (case side2 => exact (Kd.R_reads' HO411.out).2.1); (case side3 => repeat (first | exact (Kd.R_reads' HO415.out).2.2 | (with_reducible refine Kd.C_alloc ?_ _) | (with_reducible refine Kd.C_drewN ?_ _) | (with_reducible refine Kd.C_drew ?_))); (case side4 => exact (Kd.R_reads' HO415.out).2.1); rintro e w' ⟨rfl, ⟨nd, rfl⟩⟩) | (go_at_call 12; (with_reducible refine (utf_Reader_Waits.calls g338 t400 t401 t402 t403 t404 t405 t417 t418 t419 t420 t421 t422 t423 w _ ?side1 ?side2 A55.out).mono ?_); (case side1 => repeat (first | (with_reducible first | exact HI338.out | apply IsS35.alloc | apply IsS35.drewN | apply IsS35.drew | apply IsS35.set_0 | apply IsS35.set_1 | apply IsS35.set_2 | apply IsS35.set_3 | apply IsS35.set_4 | apply IsS35.set_5) | exact HI338.out)); (case side2 => repeat (first | (with_reducible first | exact HB.out | apply below_alloc | apply pw_below_drewN | apply below_drew1 | refine below_set ?_ (IsS35.ge HI338.out)) | exact HB.out)); rintro e w67 ⟨rfl, hi, hb, hk⟩; have n0_ := Aside0.mk (Kd.V_mono (Kd.V_keep (Kd.V_mono (ok := fun k_ => (((((P0_ k_ ∨ w.heap.size ≤ k_)) ∧ (some k_ ≠ (.slice Ao60 t386.length co60 : Value).ownBlock ∧ (some k_ ≠ (.slice Ao62 t396.length co62 : Value).ownBlock ∧ k_ ≠ g338))) ∧ some k_ ≠ (.slice Ao65 y409.length co65 : Value).ownBlock) ∧ some k_ ≠ (.slice Ao66 t413.length co66 : Value).ownBlock)) (by (with_reducible repeat (first | apply Kd.V_alloc | apply Kd.V_drewN | apply Kd.V_drew)); exact HO_0.out) (fun k_ hk_ => (⟨hk_, hk_.1.1.2.2.2⟩ : _ ∧ k_ ≠ g338))) hk (fun _ h => h.2)) (fun _ h => h.1)); have n1_ := Aside0.mk (Kd.V_mono (Kd.V_keep (Kd.V_mono (ok := fun k_ => (((((P0_ k_ ∨ w.heap.size ≤ k_)) ∧ (some k_ ≠ (.slice Ao60 t386.length co60 : Value).ownBlock ∧ (some k_ ≠ (.slice Ao62 t396.length co62 : Value).ownBlock ∧ k_ ≠ g338))) ∧ some k_ ≠ (.slice Ao65 y409.length co65 : Value).ownBlock) ∧ some k_ ≠ (.slice Ao66 t413.length co66 : Value).ownBlock)) (by (with_reducible repeat (first | apply Kd.V_alloc | apply Kd.V_drewN | apply Kd.V_drew)); exact HO_7.out) (fun k_ hk_ => (⟨hk_, hk_.1.1.2.2.2⟩ : _ ∧ k_ ≠ g338))) hk (fun _ h => h.2)) (fun _ h => h.1)); have n2_ := Aside0.mk (Kd.R_mono (Kd.R_keep (IsS35.apart (show IsS35 w _ g338 t400 t401 t402 t403 t404 t405 from by repeat (first | (with_reducible first | exact HI338.out | apply IsS35.alloc | apply IsS35.drewN | apply IsS35.drew | apply IsS35.set_0 | apply IsS35.set_1 | apply IsS35.set_2 | apply IsS35.set_3 | apply IsS35.set_4 | apply IsS35.set_5) | exact HI338.out)) (by (with_reducible repeat (first | apply Kd.R_alloc | apply Kd.R_drewN | apply Kd.R_drew)); exact HO388.out) (by decide)) hk (fun _ h => h.2)) (fun _ h => h.1)); have n3_ := Aside0.mk (Kd.R_mono (Kd.R_keep (IsS35.apart (show IsS35 w _ g338 t400 t401 t402 t403 t404 t405 from by repeat (first | (with_reducible first | exact HI338.out | apply IsS35.alloc | apply IsS35.drewN | apply IsS35.drew | apply IsS35.set_0 | apply IsS35.set_1 | apply IsS35.set_2 | apply IsS35.set_3 | apply IsS35.set_4 | apply IsS35.set_5) | exact HI338.out)) (by (with_reducible repeat (first | apply Kd.R_alloc | apply Kd.R_drewN | apply Kd.R_drew)); exact HO398.out) (by decide)) hk (fun _ h => h.2)) (fun _ h => h.1)); have n4_ := Aside0.mk (Kd.R_mono (Kd.R_keep (IsS35.apart (show IsS35 w _ g338 t400 t401 t402 t403 t404 t405 from by repeat (first | (with_reducible first | exact HI338.out | apply IsS35.alloc | apply IsS35.drewN | apply IsS35.drew | apply IsS35.set_0 | apply IsS35.set_1 | apply IsS35.set_2 | apply IsS35.set_3 | apply IsS35.set_4 | apply IsS35.set_5) | exact HI338.out)) (by (with_reducible repeat (first | apply Kd.R_alloc | apply Kd.R_drewN | apply Kd.R_drew)); exact HO411.out) (by decide)) hk (fun _ h => h.2)) (fun _ h => h.1)); have n5_ := Aside0.mk (Kd.R_mono (Kd.R_keep (IsS35.apart (show IsS35 w _ g338 t400 t401 t402 t403 t404 t405 from by repeat (first | (with_reducible first | exact HI338.out | apply IsS35.alloc | apply IsS35.drewN | apply IsS35.drew | apply IsS35.set_0 | apply IsS35.set_1 | apply IsS35.set_2 | apply IsS35.set_3 | apply IsS35.set_4 | apply IsS35.set_5) | exact HI338.out)) (by (with_reducible repeat (first | apply Kd.R_alloc | apply Kd.R_drewN | apply Kd.R_drew)); exact HO415.out) (by decide)) hk (fun _ h => h.2)) (fun _ h => h.1)); have n6_ := Aside0.mk (hb); have n7_ := Aside0.mk (hi); clear HO_0; clear HO_7; clear HO388; clear HO398; clear HO411; clear HO415; clear HB; clear HI338; have HO_0 := n0_; have HO_7 := n1_; have HO388 := n2_; have HO398 := n3_; have HO411 := n4_; have HO415 := n5_; have HB := n6_; have HI338 := n7_; clear n0_ n1_ n2_ n3_ n4_ n5_ n6_ n7_; (try clear hb); (try clear hb2); (try clear hk); (try clear hi)))
                              go_ret
                              exact ⟨by first | rfl | (simp [errW_none, errW_some] <;> rfl) | (simp [*, errW_none, errW_some] <;> rfl), by repeat (first | (with_reducible first | exact HB.out | apply below_alloc | apply pw_below_drewN | apply below_drew1 | refine below_set ?_ (IsS35.ge HI338.out)) | exact HB.out)⟩
                            · replace c54 := Bool.eq_false_iff.mpr c54
                              subst c54
                              have H1 : (some false) = some r := by rw [if_neg (show ¬ (false = true) by decide)] at H; exact H
                              clear H
                              have H := H1
                              clear H1
                              exact absurd (HT0_.out.symm.trans (Option.some.inj H).symm) (by decide)
                          · rw [if_neg c51] at H
                            have c51b0 : (t399 == 0) = false := beq_eq_false_iff_ne.mpr c51
                            have c51b1 : (t399 != 0) = true := bne_iff_ne.mpr c51
                            exact absurd (HT0_.out.symm.trans (Option.some.inj H).symm) (by decide)
                        · rw [if_neg c50] at H
                          have c50b0 : (t389 == 0) = false := beq_eq_false_iff_ne.mpr c50
                          have c50b1 : (t389 != 0) = true := bne_iff_ne.mpr c50
                          exact absurd (HT0_.out.symm.trans (Option.some.inj H).symm) (by decide)
                      · replace c49 := Bool.eq_false_iff.mpr c49
                        subst c49
                        have H1 : (some false) = some r := by rw [if_neg (show ¬ (false = true) by decide)] at H; exact H
                        clear H
                        have H := H1
                        clear H1
                        exact absurd (HT0_.out.symm.trans (Option.some.inj H).symm) (by decide)
                    · rw [if_neg c47] at H
                      exact absurd H (by simp)
                  · rw [if_neg c46] at H
                    exact absurd H (by simp)

/-- THE ONE PURE STATEMENT of longlinelaw13_UtfPieces: yours. -/
def longlinelaw13_UtfPieces.Pure : Prop := ∀ (l0 : List Int) (l1 : List Int), l0.length ≤ maxLen → l0.length * 1 ≤ 140737488351232 → (∀ x ∈ l0, (Lit.int .u8 x).wf = true) → l1.length ≤ maxLen → l1.length * 1 ≤ 140737488351232 → (∀ x ∈ l1, (Lit.int .u8 x).wf = true) → ∃ k, longlinelaw13_UtfPieces.f k l0 l1 = some true
theorem longlinelaw13_UtfPieces.walk (P : longlinelaw13_UtfPieces.Pure) (a0 : Option Addr) (len0 cap0 : Nat) (z0 : List Int) (a1 : Option Addr) (len1 cap1 : Nat) (z1 : List Int) (w : World) (w0 : (a0 = none ∧ len0 = 0 ∧ cap0 = 0 ∧ z0 = []) ∨ ∃ x, a0 = some x ∧ len0 ≤ cap0 ∧ cap0 ≤ maxLen ∧ z0.length = cap0 ∧ (∀ i, i < z0.length → w.cell? (x.add i) = some (.int .u8 (z0.getD i 0))) ∧ ∀ n ∈ z0, (Lit.int .u8 n).wf = true) (y0 : len0 * 1 ≤ 140737488351232) (w1 : (a1 = none ∧ len1 = 0 ∧ cap1 = 0 ∧ z1 = []) ∨ ∃ x, a1 = some x ∧ len1 ≤ cap1 ∧ cap1 ≤ maxLen ∧ z1.length = cap1 ∧ (∀ i, i < z1.length → w.cell? (x.add i) = some (.int .u8 (z1.getD i 0))) ∧ ∀ n ∈ z1, (Lit.int .u8 n).wf = true) (y1 : len1 * 1 ≤ 140737488351232) :
    Calls Try.prog 4 #[.slice a0 len0 cap0, .slice a1 len1 cap1] w fun e w' => e = .returned (.bool true) ∧ Below w.heap.size w w' := by
  obtain ⟨l0, rfl, hr0, hm0, hw0, hc0⟩ := ReadsInt.ofRowC w0
  obtain ⟨l1, rfl, hr1, hm1, hw1, hc1⟩ := ReadsInt.ofRowC w1
  obtain ⟨k, h⟩ := P l0 l1 hm0 y0 hw0 hm1 y1 hw1
  refine (longlinelaw13_UtfPieces.calls k (fun _ => True) _ _ l0 _ _ l1 true w rfl (Kd.V_mk hc0 (Go.Proofs.YtppkfpjgejognaaOwn.F_int (Kd.C_of_reads (d := (0 : Int)) (h1 := fun _ => rfl) hr0))) (Kd.C_of_reads (d := (0 : Int)) (h1 := fun _ => rfl) hr1) hc1 h).mono ?_
  rintro e w' ⟨rfl, hd⟩
  exact ⟨rfl, hd⟩

end Go.Proofs.Ytppkfpjgejognaa.QUtf
