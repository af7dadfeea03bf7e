-- WRITTEN BY A PROGRAM OF THIS SESSION (out of Lean's own print of the translated functions)
import Derived.Test.YtdnkclccjgcelaaQBOx0
namespace Go.Proofs.Ytdnkclccjgcelaa.QBO
open Go.RowKit Go.Proofs.YtdnkclccjgcelaaW.PrintWords Go.Proofs.YtdnkclccjgcelaaW.PrintLast Go.Proofs.YtdnkclccjgcelaaW.PrintMore
attribute [local go_sem] max2_int min2_int max_two min_two max_three min_three max_four min_four   -- for this text's walks alone
set_option linter.unusedVariables false
set_option linter.unusedSimpArgs false

-- NOT PRINTED: function 40 (abi_NoEscape)

-- NOT PRINTED: function 37 (strings_Builder_copyCheck)

-- NOT PRINTED: function 26 (strings_Builder_WriteByte)

-- NOT PRINTED: function 27 (strings_Builder_String)

/-! ### base_Write: function 12 -/
def base_Write.f (l0 : List Int) : Option (ByteArray) := if (∀ x ∈ l0, 0 ≤ x ∧ x < 256) ∧ l0.length ≤ 140737488351232 then some ⟨(YtdnkclccjgcelaaBW.enc l0).toArray⟩ else none
theorem base_Write.calls (A0 : Option Addr) (c0 : Nat) (l0 : List Int) (r : ByteArray) (w : World) (hr0 : Kd.C (Kd.int .u8) w A0 l0.length l0) (hc0 : l0.length ≤ c0) (h : base_Write.f l0 = some r) :
    Calls Try.prog 12 #[.slice A0 l0.length c0] w fun e w' => e = .returned (.string r) ∧ Below w.heap.size w w' := by
  unfold base_Write.f at h
  by_cases h4 : (∀ x ∈ l0, 0 ≤ x ∧ x < 256) ∧ l0.length ≤ 140737488351232
  · rw [if_pos h4] at h
    obtain rfl := Option.some.inj h
    exact YtdnkclccjgcelaaBW.base_Write.calls A0 c0 l0 w hr0 hc0 h4.1 h4.2
  · rw [if_neg h4] at h
    cases h

/-! ### base_Size: function 14 -/
def base_Size.f (a0 : Int) : Option (Int) := if a0 < 0 then (some 0) else (if a0 > 65536 then (some 0) else (some (wrap64 ((wrap64 (Int.tdiv (wrap64 (a0 + 2)) 3)) * 4))))
set_option maxHeartbeats 8000000 in
set_option maxRecDepth 100000 in
theorem base_Size.calls (a0 : Int) (r : Int) (w : World) (h : base_Size.f a0 = some r) :
    Calls Try.prog 14 #[.int .i64 a0] w fun e w' => e = .returned (.int .i64 r) ∧ Drawn0 w w' := by
  have H : (if a0 < 0 then (some 0) else (if a0 > 65536 then (some 0) else (some (wrap64 ((wrap64 (Int.tdiv (wrap64 (a0 + 2)) 3)) * 4))))) = some r := h
  clear h
  by_cases c2 : a0 < 0
  · rw [if_pos c2] at H
    have c2b0 : decide (a0 < 0) = true := decide_eq_true c2
    clear c2
    obtain rfl := Option.some.inj H
    go_enter Try.func14, Try.ntmps14
    go_wp2
    go_ret
    exact ⟨by first | rfl | (simp; done) | (simp [*]; done), by repeat (first | exact Drawn0.refl _ | apply Drawn0.step)⟩
  · rw [if_neg c2] at H
    have c2b0 : decide (a0 < 0) = false := decide_eq_false c2
    clear c2
    by_cases c3 : a0 > 65536
    · rw [if_pos c3] at H
      have c3b0 : decide (65536 < a0) = true := decide_eq_true c3
      clear c3
      obtain rfl := Option.some.inj H
      go_enter Try.func14, Try.ntmps14
      go_wp2
      go_ret
      exact ⟨by first | rfl | (simp; done) | (simp [*]; done), by repeat (first | exact Drawn0.refl _ | apply Drawn0.step)⟩
    · rw [if_neg c3] at H
      have c3b0 : decide (65536 < a0) = false := decide_eq_false c3
      clear c3
      obtain rfl := Option.some.inj H
      go_enter Try.func14, Try.ntmps14
      go_wp2
      go_ret
      exact ⟨by first | rfl | (simp; done) | (simp [*]; done), by repeat (first | exact Drawn0.refl _ | apply Drawn0.step)⟩

-- NOT PRINTED: function 42 (bytealg_IndexByteString)

-- NOT PRINTED: function 41 (stringslite_IndexByte)

/-! ### strings_IndexByte: function 38 -/
def strings_IndexByte.f (a0 : ByteArray) (a1 : Int) : Option (Int) := some (Lib.indexByte a0.data.toList a1.toNat.toUInt8)
theorem strings_IndexByte.calls (a0 : ByteArray) (a1 : Int) (r : Int) (w : World) (h : strings_IndexByte.f a0 a1 = some r) :
    Calls Try.prog 38 #[.string a0, .int .u8 a1] w fun e w' => e = .returned (.int .i64 r) ∧ Drawn0 w w' := by
  obtain rfl := Option.some.inj h
  refine (Try.strings_IndexByte a0 a1 w).mono ?_
  rintro e w' ⟨rfl, rfl⟩
  exact ⟨rfl, Drawn0.refl _⟩

/-! ### base_value: function 29 -/
def base_value.f (a0 : Int) : Option (Int) := some (YtdnkclccjgcelaaBE.val a0)
theorem base_value.calls (a0 : Int) (r : Int) (w : World) (h : base_value.f a0 = some r) :
    Calls Try.prog 29 #[.int .u8 a0] w fun e w' => e = .returned (.int .i64 r) ∧ Drawn0 w w' := by
  obtain rfl := Option.some.inj h
  refine (YtdnkclccjgcelaaBE.base_value.calls a0 w).mono ?_
  rintro e w' ⟨rfl, rfl⟩
  exact ⟨rfl, Drawn0.refl _⟩

/-! ### base_ends: function 31 -/
def base_ends.f (a0 : ByteArray) : Option (Int) := if a0.size ≤ 4 then some (YtdnkclccjgcelaaBE.endsL a0 4 0) else none
theorem base_ends.calls (a0 : ByteArray) (r : Int) (w : World) (h : base_ends.f a0 = some r) :
    Calls Try.prog 31 #[.string a0] w fun e w' => e = .returned (.int .i64 r) ∧ Below w.heap.size w w' := by
  unfold base_ends.f at h
  by_cases h4 : a0.size ≤ 4
  · rw [if_pos h4] at h
    obtain rfl := Option.some.inj h
    exact YtdnkclccjgcelaaBE.base_ends.calls a0 w h4
  · rw [if_neg h4] at h
    cases h

/-! ### base_Fault: function 17 -/
def base_Fault.l0 : Nat → ByteArray → Int → Option (Int)
  | 0, _, _ => none
  | k + 1, x0, x3 => if x3 < (x0.size : Int) then (if 0 ≤ x3 then (if x3 ≤ (mn (wrap64 (x3 + 4)) (x0.size : Int)) then (if (mn (wrap64 (x3 + 4)) (x0.size : Int)) ≤ (x0.size : Int) then ((base_ends.f (x0.extract (x3 : Int).toNat ((mn (wrap64 (x3 + 4)) (x0.size : Int)) : Int).toNat)).bind fun t101 => (if t101 ≥ 0 then (some (wrap64 (x3 + t101))) else (if ((x0.extract (x3 : Int).toNat ((mn (wrap64 (x3 + 4)) (x0.size : Int)) : Int).toNat).size : Int) < 4 then (some (x0.size : Int)) else (if 3 < ((x0.extract (x3 : Int).toNat ((mn (wrap64 (x3 + 4)) (x0.size : Int)) : Int).toNat).size : Int) then (if (bt (x0.extract (x3 : Int).toNat ((mn (wrap64 (x3 + 4)) (x0.size : Int)) : Int).toNat) 3) = 61 then (if (wrap64 (x3 + 4)) < (x0.size : Int) then (some (wrap64 (x3 + 4))) else (base_Fault.l0 k x0 (wrap64 (x3 + 4)))) else (base_Fault.l0 k x0 (wrap64 (x3 + 4)))) else (none))))) else (none)) else (none)) else (none)) else (some (-1))
def base_Fault.f (k : Nat) (a0 : ByteArray) : Option (Int) := base_Fault.l0 k a0 0
theorem base_Fault.mono_l : ∀ k, (∀ y0 y1, LeO (base_Fault.l0 k y0 y1) (base_Fault.l0 (k + 1) y0 y1))
  | 0 => fun _ _ r h => by simp [base_Fault.l0] at h
  | k + 1 => by
    have ih0 := base_Fault.mono_l k
    · intro y0 y1
      unfold base_Fault.l0
      repeat' first
      | (with_reducible exact ih0 _ _)
      | (with_reducible exact LeO.refl _)
      | (with_reducible exact LeO.none _)
      | (with_reducible refine LeO.ite ?_ ?_)
      | (with_reducible refine LeO.bind ?_ (fun _ => ?_))
      | exact ih0 _ _
      | exact LeO.none _
      | refine LeO.ite ?_ ?_
      | refine LeO.bind ?_ (fun _ => ?_)
theorem base_Fault.mono : ∀ a0 k, LeO (base_Fault.f k a0) (base_Fault.f (k + 1) a0) := by
  intro a0 k
  have ih0 := base_Fault.mono_l k
  unfold base_Fault.f
  repeat' first
      | (with_reducible exact ih0 _ _)
      | (with_reducible exact LeO.refl _)
      | (with_reducible exact LeO.none _)
      | (with_reducible refine LeO.ite ?_ ?_)
      | (with_reducible refine LeO.bind ?_ (fun _ => ?_))
      | exact ih0 _ _
      | exact LeO.none _
      | refine LeO.ite ?_ ?_
      | refine LeO.bind ?_ (fun _ => ?_)
set_option maxHeartbeats 8000000 in
set_option maxRecDepth 100000 in
theorem base_Fault.calls (k : Nat) (a0 : ByteArray) (r : Int) (w : World) (h : base_Fault.f k a0 = some r) :
    Calls Try.prog 17 #[.string a0] w fun e w' => e = .returned (.int .i64 r) ∧ Below w.heap.size w w' := by
  have HB := Aside0.mk (Below.refl w.heap.size w)
  have H : (base_Fault.l0 k a0 0) = some r := h
  clear h
  have H' := Aside0.mk H
  clear H
  go_enter Try.func17, Try.ntmps17
  go_wp2
  go_loopg [3] k (fun kq v3 w' => ∃ (x3_1 : Int), v3 = .int .i64 x3_1 ∧ Aside0 (base_Fault.l0 kq a0 x3_1 = some r) ∧ Aside0 (kq ≤ k) ∧ Aside0 (Below w.heap.size w w'))
  case atStart => exact ⟨(0), (by first | rfl | (simp; done) | (simp [*]; done)), H', ⟨Nat.le_refl _⟩, ⟨by repeat (first | (with_reducible first | exact HB.out | apply below_alloc | apply pw_below_drewN | apply below_drew1) | exact HB.out)⟩⟩
  case round =>
    clear H'
    try clear c1
    obtain ⟨x3_1, rfl, HA, HK1, HB⟩ := hrel
    cases gk with
    | zero => exact absurd HA.out (by simp [base_Fault.l0])
    | succ k1 =>
      have H := HA.out
      clear HA
      simp only [base_Fault.l0] at H
      by_cases c2 : x3_1 < (a0.size : Int)
      · rw [if_pos c2] at H
        have c2b0 : decide (x3_1 < (a0.size : Int)) = true := decide_eq_true c2
        clear c2
        obtain ⟨ji3, hji3⟩ : ∃ j_ : Int, (mn (wrap64 (x3_1 + 4)) (a0.size : Int)) = j_ := ⟨_, rfl⟩
        replace H : (if 0 ≤ x3_1 then (if x3_1 ≤ (ji3) then (if (ji3) ≤ (a0.size : Int) then ((base_ends.f (a0.extract (x3_1 : Int).toNat ((ji3) : Int).toNat)).bind fun t101 => (if t101 ≥ 0 then (some (wrap64 (x3_1 + t101))) else (if ((a0.extract (x3_1 : Int).toNat ((ji3) : Int).toNat).size : Int) < 4 then (some (a0.size : Int)) else (if 3 < ((a0.extract (x3_1 : Int).toNat ((ji3) : Int).toNat).size : Int) then (if (bt (a0.extract (x3_1 : Int).toNat ((ji3) : Int).toNat) 3) = 61 then (if (wrap64 (x3_1 + 4)) < (a0.size : Int) then (some (wrap64 (x3_1 + 4))) else (base_Fault.l0 k1 a0 (wrap64 (x3_1 + 4)))) else (base_Fault.l0 k1 a0 (wrap64 (x3_1 + 4)))) else (none))))) else (none)) else (none)) else (none)) = some r := by first | (rw [hji3] at H; exact H) | (simp only [hji3] at H ⊢; exact H)
        have hji3_ : (if (a0.size : Int) < (wrap64 (x3_1 + 4)) then (a0.size : Int) else (wrap64 (x3_1 + 4))) = ji3 := hji3
        by_cases c4 : 0 ≤ x3_1
        · rw [if_pos c4] at H
          have c4b0 := eq_true c4
          have c4b1 : decide (0 ≤ x3_1) = true := decide_eq_true c4
          clear c4
          by_cases c5 : x3_1 ≤ (ji3)
          · rw [if_pos c5] at H
            have c5b0 := eq_true c5
            have c5b1 : decide (x3_1 ≤ (ji3)) = true := decide_eq_true c5
            clear c5
            by_cases c6 : (ji3) ≤ (a0.size : Int)
            · rw [if_pos c6] at H
              have c6b0 := eq_true c6
              have c6b1 : decide ((ji3) ≤ (a0.size : Int)) = true := decide_eq_true c6
              clear c6
              obtain ⟨y4, hy4⟩ : ∃ y_ : ByteArray, (a0.extract (x3_1 : Int).toNat ((ji3) : Int).toNat) = y_ := ⟨_, rfl⟩
              rw [hy4] at H
              have hsl4 : ∀ (t_ : TypeId) (W : World), t_ = 9 → (Instr.slice t_ (.string a0) (some (.int .i64 x3_1)) (some (.int .i64 ji3)) none).run Try.prog W = .ok (.string y4) W := fun t_ W ht_ => by
                subst ht_
                rw [← hy4]
                exact run_slice_string W _ _ _ _ _ _ Try.underlying9 (of_eq_true c4b0) (of_eq_true c5b0) (of_eq_true c6b0)
              replace hsl4 := fun W => hsl4 9 W rfl
              have hx4 : ∀ h : 3 < y4.size, ((y4[3]'h).toNat : Int) = bt y4 3 := fun h => bt_at y4 3 h
              have Hy4 := Aside0.mk hy4
              clear hy4
              replace H := Option.bind_eq_some_iff.mp H
              obtain ⟨t101, A70, H⟩ := H
              replace H : (if t101 ≥ 0 then (some (wrap64 (x3_1 + t101))) else (if (y4.size : Int) < 4 then (some (a0.size : Int)) else (if 3 < (y4.size : Int) then (if (bt y4 3) = 61 then (if (wrap64 (x3_1 + 4)) < (a0.size : Int) then (some (wrap64 (x3_1 + 4))) else (base_Fault.l0 k1 a0 (wrap64 (x3_1 + 4)))) else (base_Fault.l0 k1 a0 (wrap64 (x3_1 + 4)))) else (none)))) = some r := H
              have A7 := Aside0.mk A70
              clear A70
              by_cases c8 : t101 ≥ 0
              · rw [if_pos c8] at H
                have c8b0 : decide (0 ≤ t101) = true := decide_eq_true c8
                clear c8
                obtain rfl := Option.some.inj H
                go_wp2_with (first | ((with_reducible refine gate_callee (f := 31) rfl ?_); refine goesL_ (some 21) rfl rfl Try.func31 (by kernel_rfl) rfl #[.string y4] rfl (by (try simp only [List.map_toArray, List.map_cons, List.map_nil]); first | done | (simp only [hji3]; rfl) | rfl | (simp only [List.length_drop, List.length_take]; rfl)) ?_; (with_reducible refine (base_ends.calls y4 t101 _ A7.out).mono ?_); rintro e w9 ⟨rfl, hb⟩; refine ⟨_, rfl, ?_⟩; have n0_ := Aside0.mk (below_step (by repeat (first | (with_reducible first | exact HB.out | apply below_alloc | apply pw_below_drewN | apply below_drew1) | exact HB.out)) hb); clear HB; have HB := n0_; clear n0_; (try clear hb); (try clear hb2); (try clear hk); (try clear hi)))
                go_ret
                exact ⟨by first | rfl | (simp [errW_none, errW_some] <;> rfl) | (simp only [← hji3]; first | rfl | (simp [errW_none, errW_some] <;> rfl)) | (simp [*, errW_none, errW_some] <;> rfl), by repeat (first | (with_reducible first | exact HB.out | apply below_alloc | apply pw_below_drewN | apply below_drew1) | exact HB.out)⟩
              · rw [if_neg c8] at H
                have c8b0 : decide (0 ≤ t101) = false := decide_eq_false c8
                clear c8
                by_cases c10 : (y4.size : Int) < 4
                · rw [if_pos c10] at H
                  have c10b0 : decide ((y4.size : Int) < 4) = true := decide_eq_true c10
                  have c10b1 : decide (y4.size < 4) = true := decide_eq_true (by omega)
                  clear c10
                  obtain rfl := Option.some.inj H
                  go_wp2_with (first | ((with_reducible refine gate_callee (f := 31) rfl ?_); refine goesL_ (some 21) rfl rfl Try.func31 (by kernel_rfl) rfl #[.string y4] rfl (by (try simp only [List.map_toArray, List.map_cons, List.map_nil]); first | done | (simp only [hji3]; rfl) | rfl | (simp only [List.length_drop, List.length_take]; rfl)) ?_; (with_reducible refine (base_ends.calls y4 t101 _ A7.out).mono ?_); rintro e w11 ⟨rfl, hb⟩; refine ⟨_, rfl, ?_⟩; have n0_ := Aside0.mk (below_step (by repeat (first | (with_reducible first | exact HB.out | apply below_alloc | apply pw_below_drewN | apply below_drew1) | exact HB.out)) hb); clear HB; have HB := n0_; clear n0_; (try clear hb); (try clear hb2); (try clear hk); (try clear hi)))
                  go_ret
                  exact ⟨by first | rfl | (simp [errW_none, errW_some] <;> rfl) | (simp only [← hji3]; first | rfl | (simp [errW_none, errW_some] <;> rfl)) | (simp [*, errW_none, errW_some] <;> rfl), by repeat (first | (with_reducible first | exact HB.out | apply below_alloc | apply pw_below_drewN | apply below_drew1) | exact HB.out)⟩
                · rw [if_neg c10] at H
                  have c10b0 : decide ((y4.size : Int) < 4) = false := decide_eq_false c10
                  have c10b1 : decide (y4.size < 4) = false := decide_eq_false (by omega)
                  clear c10
                  by_cases c12 : 3 < (y4.size : Int)
                  · rw [if_pos c12] at H
                    have c12b0 : decide (3 < (y4.size : Int)) = true := decide_eq_true c12
                    have c12b1 : decide (3 < y4.size) = true := decide_eq_true (by omega)
                    clear c12
                    by_cases c14 : (bt y4 3) = 61
                    · rw [if_pos c14] at H
                      have c14b0 : ((bt y4 3) == 61) = true := beq_iff_eq.mpr c14
                      have c14b1 : ((bt y4 3) != 61) = false := bne_eq_false_iff_eq.mpr c14
                      clear c14
                      by_cases c15 : (wrap64 (x3_1 + 4)) < (a0.size : Int)
                      · rw [if_pos c15] at H
                        have c15b0 : decide ((wrap64 (x3_1 + 4)) < (a0.size : Int)) = true := decide_eq_true c15
                        clear c15
                        obtain rfl := Option.some.inj H
                        go_wp2_with (first | ((with_reducible refine gate_callee (f := 31) rfl ?_); refine goesL_ (some 21) rfl rfl Try.func31 (by kernel_rfl) rfl #[.string y4] rfl (by (try simp only [List.map_toArray, List.map_cons, List.map_nil]); first | done | (simp only [hji3]; rfl) | rfl | (simp only [List.length_drop, List.length_take]; rfl)) ?_; (with_reducible refine (base_ends.calls y4 t101 _ A7.out).mono ?_); rintro e w16 ⟨rfl, hb⟩; refine ⟨_, rfl, ?_⟩; have n0_ := Aside0.mk (below_step (by repeat (first | (with_reducible first | exact HB.out | apply below_alloc | apply pw_below_drewN | apply below_drew1) | exact HB.out)) hb); clear HB; have HB := n0_; clear n0_; (try clear hb); (try clear hb2); (try clear hk); (try clear hi); have p13 : 0 ≤ (3 : Int) := (by omega); have q13 : 3 < y4.size := (by have : (3 : Int) < (y4.size : Int) := of_decide_eq_true (by first | (with_reducible assumption) | assumption); omega); have hx13 : ∀ h : 3 < y4.size, ((y4[3]'h).toNat : Int) = bt y4 3 := bt_at y4 3; clear p13; have qi13 : (3 < (y4.size : Int)) = True := eq_true (of_decide_eq_true (by first | (with_reducible assumption) | assumption)); replace q13 := eq_true q13))
                        go_ret
                        exact ⟨by first | rfl | (simp [errW_none, errW_some] <;> rfl) | (simp only [← hji3]; first | rfl | (simp [errW_none, errW_some] <;> rfl)) | (simp [*, errW_none, errW_some] <;> rfl), by repeat (first | (with_reducible first | exact HB.out | apply below_alloc | apply pw_below_drewN | apply below_drew1) | exact HB.out)⟩
                      · rw [if_neg c15] at H
                        have c15b0 : decide ((wrap64 (x3_1 + 4)) < (a0.size : Int)) = false := decide_eq_false c15
                        clear c15
                        have H' := Aside0.mk H
                        clear H
                        go_wp2_with (first | ((with_reducible refine gate_callee (f := 31) rfl ?_); refine goesL_ (some 21) rfl rfl Try.func31 (by kernel_rfl) rfl #[.string y4] rfl (by (try simp only [List.map_toArray, List.map_cons, List.map_nil]); first | done | (simp only [hji3]; rfl) | rfl | (simp only [List.length_drop, List.length_take]; rfl)) ?_; (with_reducible refine (base_ends.calls y4 t101 _ A7.out).mono ?_); rintro e w17 ⟨rfl, hb⟩; refine ⟨_, rfl, ?_⟩; have n0_ := Aside0.mk (below_step (by repeat (first | (with_reducible first | exact HB.out | apply below_alloc | apply pw_below_drewN | apply below_drew1) | exact HB.out)) hb); clear HB; have HB := n0_; clear n0_; (try clear hb); (try clear hb2); (try clear hk); (try clear hi); have p13 : 0 ≤ (3 : Int) := (by omega); have q13 : 3 < y4.size := (by have : (3 : Int) < (y4.size : Int) := of_decide_eq_true (by first | (with_reducible assumption) | assumption); omega); have hx13 : ∀ h : 3 < y4.size, ((y4[3]'h).toNat : Int) = bt y4 3 := bt_at y4 3; clear p13; have qi13 : (3 < (y4.size : Int)) = True := eq_true (of_decide_eq_true (by first | (with_reducible assumption) | assumption)); replace q13 := eq_true q13))
                        go_roundg k1
                        case measure => have := HK1.out; omega
                        case rel => exact ⟨(wrap64 (x3_1 + 4)), (by first | rfl | (simp; done) | (simp [*]; done)), H', ⟨by have := HK1.out; omega⟩, ⟨by repeat (first | (with_reducible first | exact HB.out | apply below_alloc | apply pw_below_drewN | apply below_drew1) | exact HB.out)⟩⟩
                    · rw [if_neg c14] at H
                      have c14b0 : ((bt y4 3) == 61) = false := beq_eq_false_iff_ne.mpr c14
                      have c14b1 : ((bt y4 3) != 61) = true := bne_iff_ne.mpr c14
                      have H' := Aside0.mk H
                      clear H
                      go_wp2_with (first | ((with_reducible refine gate_callee (f := 31) rfl ?_); refine goesL_ (some 21) rfl rfl Try.func31 (by kernel_rfl) rfl #[.string y4] rfl (by (try simp only [List.map_toArray, List.map_cons, List.map_nil]); first | done | (simp only [hji3]; rfl) | rfl | (simp only [List.length_drop, List.length_take]; rfl)) ?_; (with_reducible refine (base_ends.calls y4 t101 _ A7.out).mono ?_); rintro e w18 ⟨rfl, hb⟩; refine ⟨_, rfl, ?_⟩; have n0_ := Aside0.mk (below_step (by repeat (first | (with_reducible first | exact HB.out | apply below_alloc | apply pw_below_drewN | apply below_drew1) | exact HB.out)) hb); clear HB; have HB := n0_; clear n0_; (try clear hb); (try clear hb2); (try clear hk); (try clear hi); have p13 : 0 ≤ (3 : Int) := (by omega); have q13 : 3 < y4.size := (by have : (3 : Int) < (y4.size : Int) := of_decide_eq_true (by first | (with_reducible assumption) | assumption); omega); have hx13 : ∀ h : 3 < y4.size, ((y4[3]'h).toNat : Int) = bt y4 3 := bt_at y4 3; clear p13; have qi13 : (3 < (y4.size : Int)) = True := eq_true (of_decide_eq_true (by first | (with_reducible assumption) | assumption)); replace q13 := eq_true q13))
                      go_roundg k1
                      case measure => have := HK1.out; omega
                      case rel => exact ⟨(wrap64 (x3_1 + 4)), (by first | rfl | (simp; done) | (simp [*]; done)), H', ⟨by have := HK1.out; omega⟩, ⟨by repeat (first | (with_reducible first | exact HB.out | apply below_alloc | apply pw_below_drewN | apply below_drew1) | exact HB.out)⟩⟩
                  · rw [if_neg c12] at H
                    exact absurd H (by simp)
            · rw [if_neg c6] at H
              exact absurd H (by simp)
          · rw [if_neg c5] at H
            exact absurd H (by simp)
        · rw [if_neg c4] at H
          exact absurd H (by simp)
      · rw [if_neg c2] at H
        have c2b0 : decide (x3_1 < (a0.size : Int)) = false := decide_eq_false c2
        clear c2
        obtain rfl := Option.some.inj H
        go_wp2
        go_ret
        exact ⟨by first | rfl | (simp [errW_none, errW_some] <;> rfl) | (simp [*, errW_none, errW_some] <;> rfl), by repeat (first | (with_reducible first | exact HB.out | apply below_alloc | apply pw_below_drewN | apply below_drew1) | exact HB.out)⟩

/-! ### base_Read: function 15 -/
mutual
def base_Read.l0 : Nat → ByteArray → List Int → Option (List Int × Int)
  | 0, _, _ => none
  | k + 1, x0, x4 => if (x0.size : Int) > 0 then (base_Read.l1 k x0 x4 0 3 0) else (some (x4, 0))
def base_Read.l1 : Nat → ByteArray → List Int → Int → Int → Int → Option (List Int × Int)
  | 0, _, _, _, _, _ => none
  | k + 1, x0, x4, x5, x6, x22 => if x22 < 4 then (if 0 ≤ x22 then (if x22 < (x0.size : Int) then (if (bt x0 x22) = 61 then (base_Read.l1 k x0 x4 ((x5 * 64) % 4294967296) (wrap64 (x6 - 1)) (wrap64 (x22 + 1))) else ((base_value.f (bt x0 x22)).bind fun t102 => (base_Read.l1 k x0 x4 (Go.bits .or .u32 ((x5 * 64) % 4294967296) ((t102) % 4294967296)) x6 (wrap64 (x22 + 1))))) else (none)) else (none)) else ((some (([(x5 / 65536) % 256, (x5 / 256) % 256, (x5) % 256] : List Int) : List Int)).bind fun y103 => (if 0 ≤ x6 then (if x6 ≤ (y103.length : Int) then ((some (y103.take (x6 : Int).toNat : List Int)).bind fun y106 => (if x4.length + y106.length < 140737488355328 then (if 4 ≤ (x0.size : Int) then (base_Read.l0 k (x0.extract 4 x0.size) (x4 ++ y106)) else (none)) else (none))) else (none)) else (none)))
end
def base_Read.f (k : Nat) (a0 : ByteArray) : Option (List Int × Int) := if (a0.size : Int) > 90000 then (some (([] : List Int), 2)) else ((base_Fault.f k a0).bind fun t101 => (if t101 ≥ 0 then (some (([] : List Int), 3)) else (base_Read.l0 k a0 ([] : List Int))))
theorem base_Read.mono_l : ∀ k, (∀ y0 y1, LeO (base_Read.l0 k y0 y1) (base_Read.l0 (k + 1) y0 y1)) ∧ (∀ y0 y1 y2 y3 y4, LeO (base_Read.l1 k y0 y1 y2 y3 y4) (base_Read.l1 (k + 1) y0 y1 y2 y3 y4))
  | 0 => ⟨fun _ _ r h => by simp [base_Read.l0] at h, fun _ _ _ _ _ r h => by simp [base_Read.l1] at h⟩
  | k + 1 => by
    obtain ⟨ih0, ih1⟩ := base_Read.mono_l k
    refine ⟨?_, ?_⟩
    · intro y0 y1
      unfold base_Read.l0
      repeat' first
      | (with_reducible exact ih0 _ _)
      | (with_reducible exact ih1 _ _ _ _ _)
      | (with_reducible exact base_Fault.mono _ _)
      | (with_reducible exact LeO.refl _)
      | (with_reducible exact LeO.none _)
      | (with_reducible refine LeO.ite ?_ ?_)
      | (with_reducible refine LeO.bind ?_ (fun _ => ?_))
      | exact ih0 _ _
      | exact ih1 _ _ _ _ _
      | exact base_Fault.mono _ _
      | exact LeO.none _
      | refine LeO.ite ?_ ?_
      | refine LeO.bind ?_ (fun _ => ?_)
    · intro y0 y1 y2 y3 y4
      unfold base_Read.l1
      repeat' first
      | (with_reducible exact ih0 _ _)
      | (with_reducible exact ih1 _ _ _ _ _)
      | (with_reducible exact base_Fault.mono _ _)
      | (with_reducible exact LeO.refl _)
      | (with_reducible exact LeO.none _)
      | (with_reducible refine LeO.ite ?_ ?_)
      | (with_reducible refine LeO.bind ?_ (fun _ => ?_))
      | exact ih0 _ _
      | exact ih1 _ _ _ _ _
      | exact base_Fault.mono _ _
      | exact LeO.none _
      | refine LeO.ite ?_ ?_
      | refine LeO.bind ?_ (fun _ => ?_)
theorem base_Read.mono : ∀ a0 k, LeO (base_Read.f k a0) (base_Read.f (k + 1) a0) := by
  intro a0 k
  obtain ⟨ih0, ih1⟩ := base_Read.mono_l k
  unfold base_Read.f
  repeat' first
      | (with_reducible exact ih0 _ _)
      | (with_reducible exact ih1 _ _ _ _ _)
      | (with_reducible exact base_Fault.mono _ _)
      | (with_reducible exact LeO.refl _)
      | (with_reducible exact LeO.none _)
      | (with_reducible refine LeO.ite ?_ ?_)
      | (with_reducible refine LeO.bind ?_ (fun _ => ?_))
      | exact ih0 _ _
      | exact ih1 _ _ _ _ _
      | exact base_Fault.mono _ _
      | exact LeO.none _
      | refine LeO.ite ?_ ?_
      | refine LeO.bind ?_ (fun _ => ?_)
set_option maxHeartbeats 8000000 in
set_option maxRecDepth 100000 in
theorem base_Read.calls (k : Nat) (a0 : ByteArray) (r1 : List Int) (r2 : Int) (w : World) (h : base_Read.f k a0 = some (r1, r2)) :
    Calls Try.prog 15 #[.string a0] w fun e w' => ∃ v0_ : Value, e = .returned (.tuple #[v0_, .int .i64 r2]) ∧ Kd.R (Kd.int .u8) 5 w' w.heap.size (fun _ => True) v0_ r1 ∧ Below w.heap.size w w' := by
  have HB := Aside0.mk (Below.refl w.heap.size w)
  have H : (if (a0.size : Int) > 90000 then (some (([] : List Int), 2)) else ((base_Fault.f k a0).bind fun t101 => (if t101 ≥ 0 then (some (([] : List Int), 3)) else (base_Read.l0 k a0 ([] : List Int))))) = some (r1, r2) := h
  clear h
  by_cases c2 : (a0.size : Int) > 90000
  · rw [if_pos c2] at H
    have c2b0 : decide (90000 < (a0.size : Int)) = true := decide_eq_true c2
    have c2b1 : decide (90000 < a0.size) = true := decide_eq_true (by omega)
    clear c2
    simp only [Option.some.injEq, Prod.mk.injEq] at H
    obtain ⟨rfl, rfl⟩ := H
    go_enter Try.func15, Try.ntmps15
    go_wp2
    go_ret2
    exact ⟨_, by first | rfl | (simp [errW_none, errW_some] <;> rfl) | (simp [*, errW_none, errW_some] <;> rfl), by first | exact Kd.R_nil _ _ _ _ _ | exact Kd.N_nil _ _ _ _ _ | exact Kd.V_nil _ _ _ _ _ | exact Kd.Q_nil _ _ _ _ _ | exact Kd.S_nil _ _ _ _ _, by repeat (first | (with_reducible first | exact HB.out | apply below_alloc | apply pw_below_drewN | apply below_drew1) | exact HB.out)⟩
  · rw [if_neg c2] at H
    have c2b0 : decide (90000 < (a0.size : Int)) = false := decide_eq_false c2
    have c2b1 : decide (90000 < a0.size) = false := decide_eq_false (by omega)
    clear c2
    replace H := Option.bind_eq_some_iff.mp H
    obtain ⟨t101, A30, H⟩ := H
    replace H : (if t101 ≥ 0 then (some (([] : List Int), 3)) else (base_Read.l0 k a0 ([] : List Int))) = some (r1, r2) := H
    have A3 := Aside0.mk A30
    clear A30
    by_cases c4 : t101 ≥ 0
    · rw [if_pos c4] at H
      have c4b0 : decide (0 ≤ t101) = true := decide_eq_true c4
      clear c4
      simp only [Option.some.injEq, Prod.mk.injEq] at H
      obtain ⟨rfl, rfl⟩ := H
      go_enter Try.func15, Try.ntmps15
      go_wp2_with (first | ((with_reducible refine gate_callee (f := 17) rfl ?_); refine goesL_ (some 15) rfl rfl Try.func17 (by kernel_rfl) rfl #[.string a0] rfl (by (try simp only [List.map_toArray, List.map_cons, List.map_nil]); first | done | rfl | (simp only [List.length_drop, List.length_take]; rfl)) ?_; (with_reducible refine (base_Fault.calls k a0 t101 _ A3.out).mono ?_); rintro e w5 ⟨rfl, hb⟩; refine ⟨_, rfl, ?_⟩; have n0_ := Aside0.mk (below_step (by repeat (first | (with_reducible first | exact HB.out | apply below_alloc | apply pw_below_drewN | apply below_drew1) | exact HB.out)) hb); clear HB; have HB := n0_; clear n0_; (try clear hb); (try clear hb2); (try clear hk); (try clear hi)))
      go_ret2
      exact ⟨_, by first | rfl | (simp [errW_none, errW_some] <;> rfl) | (simp [*, errW_none, errW_some] <;> rfl), by first | exact Kd.R_nil _ _ _ _ _ | exact Kd.N_nil _ _ _ _ _ | exact Kd.V_nil _ _ _ _ _ | exact Kd.Q_nil _ _ _ _ _ | exact Kd.S_nil _ _ _ _ _, by repeat (first | (with_reducible first | exact HB.out | apply below_alloc | apply pw_below_drewN | apply below_drew1) | exact HB.out)⟩
    · rw [if_neg c4] at H
      have c4b0 : decide (0 ≤ t101) = false := decide_eq_false c4
      clear c4
      have H' := Aside0.mk H
      clear H
      go_enter Try.func15, Try.ntmps15
      go_wp2_with (first | ((with_reducible refine gate_callee (f := 17) rfl ?_); refine goesL_ (some 15) rfl rfl Try.func17 (by kernel_rfl) rfl #[.string a0] rfl (by (try simp only [List.map_toArray, List.map_cons, List.map_nil]); first | done | rfl | (simp only [List.length_drop, List.length_take]; rfl)) ?_; (with_reducible refine (base_Fault.calls k a0 t101 _ A3.out).mono ?_); rintro e w6 ⟨rfl, hb⟩; refine ⟨_, rfl, ?_⟩; have n0_ := Aside0.mk (below_step (by repeat (first | (with_reducible first | exact HB.out | apply below_alloc | apply pw_below_drewN | apply below_drew1) | exact HB.out)) hb); clear HB; have HB := n0_; clear n0_; (try clear hb); (try clear hb2); (try clear hk); (try clear hi)))
      go_loopg [0, 4] k (fun kq v0 v4 w' => ∃ (x0_1 : ByteArray) (x4_1 : List Int), v0 = .string x0_1 ∧ Aside0 (base_Read.l0 kq x0_1 x4_1 = some (r1, r2)) ∧ Aside0 (kq ≤ k) ∧ Aside0 (Kd.R (Kd.int .u8) 5 w' w.heap.size (fun _ => True) v4 x4_1) ∧ Aside0 (Below w.heap.size w w'))
      case atStart => exact ⟨(a0), (([] : List Int)), (by first | rfl | (simp; done) | (simp [*]; done)), H', ⟨Nat.le_refl _⟩, ⟨by first | exact Kd.R_nil _ _ _ _ _ | exact Kd.N_nil _ _ _ _ _ | exact Kd.V_nil _ _ _ _ _ | exact Kd.Q_nil _ _ _ _ _ | exact Kd.S_nil _ _ _ _ _⟩, ⟨by repeat (first | (with_reducible first | exact HB.out | apply below_alloc | apply pw_below_drewN | apply below_drew1) | exact HB.out)⟩⟩
      case round =>
        clear H'
        try clear c1
        try clear c2
        try clear c2b0
        try clear c2b1
        try clear p2
        try clear c4
        try clear c4b0
        obtain ⟨x0_1, x4_1, rfl, HA, HK1, HO_4, HB⟩ := hrel
        cases gk with
        | zero => exact absurd HA.out (by simp [base_Read.l0])
        | succ k1 =>
          have H := HA.out
          clear HA
          simp only [base_Read.l0] at H
          by_cases c7 : (x0_1.size : Int) > 0
          · rw [if_pos c7] at H
            have c7b0 : decide (0 < (x0_1.size : Int)) = true := decide_eq_true c7
            have c7b1 : decide (0 < x0_1.size) = true := decide_eq_true (by omega)
            clear c7
            have H' := Aside0.mk H
            clear H
            go_wp2
            go_loopg [5, 6, 22] k1 (fun kq v5 v6 v22 w' => ∃ (x5_2 : Int) (x6_2 : Int) (x22_2 : Int), v5 = .int .u32 x5_2 ∧ v6 = .int .i64 x6_2 ∧ v22 = .int .i64 x22_2 ∧ Aside0 (base_Read.l1 kq x0_1 x4_1 x5_2 x6_2 x22_2 = some (r1, r2)) ∧ Aside0 (kq ≤ k1) ∧ Aside0 (Kd.R (Kd.int .u8) 5 w' w.heap.size (fun _ => True) u4 x4_1) ∧ Aside0 (Below w.heap.size w w'))
            case atStart => exact ⟨(0), (3), (0), (by first | rfl | (simp; done) | (simp [*]; done)), (by first | rfl | (simp; done) | (simp [*]; done)), (by first | rfl | (simp; done) | (simp [*]; done)), H', ⟨Nat.le_refl _⟩, ⟨by (with_reducible repeat (first | apply Kd.R_alloc | apply Kd.R_drewN | apply Kd.R_drew)); exact HO_4.out⟩, ⟨by repeat (first | (with_reducible first | exact HB.out | apply below_alloc | apply pw_below_drewN | apply below_drew1) | exact HB.out)⟩⟩
            case round =>
              clear H'
              try clear c1
              try clear c2
              try clear c2b0
              try clear c2b1
              try clear p2
              try clear c4
              try clear c4b0
              try clear c7
              try clear c7b0
              try clear c7b1
              try clear p2
              obtain ⟨x5_2, x6_2, x22_2, rfl, rfl, rfl, HA, HK2, HO_4, HB⟩ := hrel
              cases gk with
              | zero => exact absurd HA.out (by simp [base_Read.l1])
              | succ k2 =>
                have H := HA.out
                clear HA
                simp only [base_Read.l1] at H
                by_cases c8 : x22_2 < 4
                · rw [if_pos c8] at H
                  have c8b0 : decide (x22_2 < 4) = true := decide_eq_true c8
                  clear c8
                  by_cases c9 : 0 ≤ x22_2
                  · rw [if_pos c9] at H
                    have c9b0 : decide (0 ≤ x22_2) = true := decide_eq_true c9
                    clear c9
                    by_cases c10 : x22_2 < (x0_1.size : Int)
                    · rw [if_pos c10] at H
                      have c10b0 : decide (x22_2 < (x0_1.size : Int)) = true := decide_eq_true c10
                      clear c10
                      by_cases c12 : (bt x0_1 x22_2) = 61
                      · rw [if_pos c12] at H
                        have c12b0 : ((bt x0_1 x22_2) == 61) = true := beq_iff_eq.mpr c12
                        have c12b1 : ((bt x0_1 x22_2) != 61) = false := bne_eq_false_iff_eq.mpr c12
                        clear c12
                        have H' := Aside0.mk H
                        clear H
                        have p11 : 0 ≤ (x22_2 : Int) := of_decide_eq_true (by first | (with_reducible assumption) | assumption)
                        have q11 : x22_2 < (x0_1.size : Int) := of_decide_eq_true (by first | (with_reducible assumption) | assumption)
                        have hx11 := bt_at x0_1 x22_2
                        replace p11 := eq_true p11
                        replace q11 := eq_true q11
                        go_wp2
                        go_roundg k2
                        case measure => have := HK1.out; have := HK2.out; omega
                        case rel => exact ⟨((x5_2 * 64) % 4294967296), (wrap64 (x6_2 - 1)), (wrap64 (x22_2 + 1)), (by first | rfl | (simp; done) | (simp [*]; done)), (by first | rfl | (simp; done) | (simp [*]; done)), (by first | rfl | (simp; done) | (simp [*]; done)), H', ⟨by have := HK1.out; have := HK2.out; omega⟩, ⟨by (with_reducible repeat (first | apply Kd.R_alloc | apply Kd.R_drewN | apply Kd.R_drew)); exact HO_4.out⟩, ⟨by repeat (first | (with_reducible first | exact HB.out | apply below_alloc | apply pw_below_drewN | apply below_drew1) | exact HB.out)⟩⟩
                      · rw [if_neg c12] at H
                        have c12b0 : ((bt x0_1 x22_2) == 61) = false := beq_eq_false_iff_ne.mpr c12
                        have c12b1 : ((bt x0_1 x22_2) != 61) = true := bne_iff_ne.mpr c12
                        replace H := Option.bind_eq_some_iff.mp H
                        obtain ⟨t102, A140, H⟩ := H
                        replace H : (base_Read.l1 k2 x0_1 x4_1 (Go.bits .or .u32 ((x5_2 * 64) % 4294967296) ((t102) % 4294967296)) x6_2 (wrap64 (x22_2 + 1))) = some (r1, r2) := H
                        have A14 := Aside0.mk A140
                        clear A140
                        have H' := Aside0.mk H
                        clear H
                        have p11 : 0 ≤ (x22_2 : Int) := of_decide_eq_true (by first | (with_reducible assumption) | assumption)
                        have q11 : x22_2 < (x0_1.size : Int) := of_decide_eq_true (by first | (with_reducible assumption) | assumption)
                        have hx11 := bt_at x0_1 x22_2
                        replace p11 := eq_true p11
                        replace q11 := eq_true q11
                        have p13 : 0 ≤ (x22_2 : Int) := of_decide_eq_true (by first | (with_reducible assumption) | assumption)
                        have q13 : x22_2 < (x0_1.size : Int) := of_decide_eq_true (by first | (with_reducible assumption) | assumption)
                        have hx13 := bt_at x0_1 x22_2
                        replace p13 := eq_true p13
                        replace q13 := eq_true q13
                        go_wp2_with (first | ((with_reducible refine gate_callee (f := 29) rfl ?_); refine goesL_ (some 37) rfl rfl Try.func29 (by kernel_rfl) rfl #[.int .u8 (bt x0_1 x22_2)] rfl (by (try simp only [List.map_toArray, List.map_cons, List.map_nil]); first | done | rfl | (simp only [List.length_drop, List.length_take]; rfl)) ?_; (with_reducible refine (base_value.calls (bt x0_1 x22_2) t102 _ A14.out).mono ?_); rintro e w' ⟨rfl, ⟨nd, rfl⟩⟩; refine ⟨_, rfl, ?_⟩))
                        go_roundg k2
                        case measure => have := HK1.out; have := HK2.out; omega
                        case rel => exact ⟨(Go.bits .or .u32 ((x5_2 * 64) % 4294967296) ((t102) % 4294967296)), (x6_2), (wrap64 (x22_2 + 1)), (by first | rfl | (simp; done) | (simp [*]; done)), (by first | rfl | (simp; done) | (simp [*]; done)), (by first | rfl | (simp; done) | (simp [*]; done)), H', ⟨by have := HK1.out; have := HK2.out; omega⟩, ⟨by (with_reducible repeat (first | apply Kd.R_alloc | apply Kd.R_drewN | apply Kd.R_drew)); exact HO_4.out⟩, ⟨by repeat (first | (with_reducible first | exact HB.out | apply below_alloc | apply pw_below_drewN | apply below_drew1) | exact HB.out)⟩⟩
                    · rw [if_neg c10] at H
                      exact absurd H (by simp)
                  · rw [if_neg c9] at H
                    exact absurd H (by simp)
                · rw [if_neg c8] at H
                  have c8b0 : decide (x22_2 < 4) = false := decide_eq_false c8
                  clear c8
                  obtain ⟨y103, hy103⟩ : ∃ y_ : List Int, y_ = (([(x5_2 / 65536) % 256, (x5_2 / 256) % 256, (x5_2) % 256] : List Int)) := ⟨_, rfl⟩
                  replace H : (if 0 ≤ x6_2 then (if x6_2 ≤ (y103.length : Int) then ((some (y103.take (x6_2 : Int).toNat : List Int)).bind fun y106 => (if x4_1.length + y106.length < 140737488355328 then (if 4 ≤ (x0_1.size : Int) then (base_Read.l0 k2 (x0_1.extract 4 x0_1.size) (x4_1 ++ y106)) else (none)) else (none))) else (none)) else (none)) = some (r1, r2) := by first | (rw [hy103]; with_reducible exact H) | (have H2_ := (Option.bind_some _ _).symm.trans H; rw [hy103]; with_reducible exact H2_) | (have H2_ := (Option.bind_some _ _).symm.trans H; with_reducible exact H2_) | with_reducible exact H | (rw [hy103]; exact H) | exact H
                  have Ny103 := Aside0.mk hy103
                  clear hy103
                  by_cases c15 : 0 ≤ x6_2
                  · rw [if_pos c15] at H
                    have c15b0 := eq_true c15
                    have c15b1 : decide (0 ≤ x6_2) = true := decide_eq_true c15
                    clear c15
                    by_cases c16 : x6_2 ≤ (y103.length : Int)
                    · rw [if_pos c16] at H
                      have c16b0 := eq_true c16
                      have c16b1 : decide (x6_2 ≤ (y103.length : Int)) = true := decide_eq_true c16
                      clear c16
                      obtain ⟨y106, hy106⟩ : ∃ y_ : List Int, y_ = (y103.take (x6_2 : Int).toNat) := ⟨_, rfl⟩
                      replace H : (if x4_1.length + y106.length < 140737488355328 then (if 4 ≤ (x0_1.size : Int) then (base_Read.l0 k2 (x0_1.extract 4 x0_1.size) (x4_1 ++ y106)) else (none)) else (none)) = some (r1, r2) := by first | (rw [hy106]; with_reducible exact H) | (have H2_ := (Option.bind_some _ _).symm.trans H; rw [hy106]; with_reducible exact H2_) | (have H2_ := (Option.bind_some _ _).symm.trans H; with_reducible exact H2_) | with_reducible exact H | (rw [hy106]; exact H) | exact H
                      have Ny106 := Aside0.mk hy106
                      clear hy106
                      by_cases c17 : x4_1.length + y106.length < 140737488355328
                      · rw [if_pos c17] at H
                        have LMc17 := Aside0.mk c17
                        clear c17
                        obtain ⟨y110, hy110⟩ : ∃ y_ : List Int, y_ = (x4_1 ++ y106) := ⟨_, rfl⟩
                        replace H : (if 4 ≤ (x0_1.size : Int) then (base_Read.l0 k2 (x0_1.extract 4 x0_1.size) y110) else (none)) = some (r1, r2) := by first | (rw [hy110]; with_reducible exact H) | (have H2_ := (Option.bind_some _ _).symm.trans H; rw [hy110]; with_reducible exact H2_) | (have H2_ := (Option.bind_some _ _).symm.trans H; with_reducible exact H2_) | with_reducible exact H | (rw [hy110]; exact H) | exact H
                        have Ny110 := Aside0.mk hy110
                        clear hy110
                        by_cases c18 : 4 ≤ (x0_1.size : Int)
                        · rw [if_pos c18] at H
                          have c18b0 := eq_true c18
                          have c18b1 : decide (4 ≤ (x0_1.size : Int)) = true := decide_eq_true c18
                          clear c18
                          have H' := Aside0.mk H
                          clear H
                          go_wp2_with (first | ((with_reducible refine gate_dst (N := 49) rfl ?_); refine Kd.R_lit (Kd.int .u8) _ 5 ?hg (N := 49) ?hd (xs := ([(x5_2 / 65536) % 256, (x5_2 / 256) % 256, (x5_2) % 256] : List Int)) (inner := [.int .u8 ((x5_2 / 65536) % 256), .int .u8 ((x5_2 / 256) % 256), .int .u8 ((x5_2) % 256)]) (ok := fun _ => True) (okp := fun _ => True) ?hr ?hp (fun _ hk => hk) trivial (Below.refl _ _) (Nat.le_refl _) (by simp) ?_; (case hd => rfl); (case hg => rfl); (case hr => first | (go_simp; done) | (go_simp; rfl)); (case hp => exact (Reps.one (show Kd.M (Kd.int .u8) _ _ _ ((x5_2 / 65536) % 256) [.int .u8 ((x5_2 / 65536) % 256)] from rfl) (Reps.one (show Kd.M (Kd.int .u8) _ _ _ ((x5_2 / 256) % 256) [.int .u8 ((x5_2 / 256) % 256)] from rfl) (Reps.one (show Kd.M (Kd.int .u8) _ _ _ ((x5_2) % 256) [.int .u8 ((x5_2) % 256)] from rfl) (Reps.none _ _))))); intro v104 w19 ho20 hb hg_ hnew_; clear hg_ hnew_; (first | rw [← Ny103.out] at ho20 | (simp only [Int.reduceToNat] at ho20; rw [← Ny103.out] at ho20)); have n0_ := Aside0.mk (Kd.R_elder' (by (with_reducible repeat (first | apply Kd.R_alloc | apply Kd.R_drewN | apply Kd.R_drew)); exact HO_4.out) (Kd.R_base ho20) hb); have n1_ := Aside0.mk (Kd.R_lower (Kd.R_new' ho20 (Kd.R_lt (by (with_reducible repeat (first | apply Kd.R_alloc | apply Kd.R_drewN | apply Kd.R_drew)); exact HO_4.out))) (below_size (by repeat (first | (with_reducible first | exact HB.out | apply below_alloc | apply pw_below_drewN | apply below_drew1) | exact HB.out)))); have n2_ := Aside0.mk (below_step (by repeat (first | (with_reducible first | exact HB.out | apply below_alloc | apply pw_below_drewN | apply below_drew1) | exact HB.out)) hb); clear HO_4; clear HB; have HO_4 := n0_; have HO105 := n1_; have HB := n2_; clear n0_ n1_ n2_; clear hb ho20; obtain ⟨Ao22, co22, eo22⟩ := Kd.R_slice HO105.out; subst eo22; have q21 : (x6_2 : Int) ≤ ((y103.length : Int) : Int) := of_decide_eq_true (by first | (with_reducible assumption) | assumption); obtain ⟨i021, hi021, _, hsz21, _⟩ := info_parts info5; have hroom21 : y103.length ≤ co22 := (Kd.R_reads' HO105.out).2.1; have hC21 : Kd.C (Kd.int .u8) _ Ao22 y103.length y103 := (Kd.R_reads' HO105.out).2.2; have hcut21 := cut_to (P := Try.prog) 22 5 .i64 Try.underlying22 hi021 Ao22 y103.length co22 x6_2 (of_decide_eq_true (by first | (with_reducible assumption) | assumption)) q21 hroom21; have hr21 := Kd.C_take (m := (x6_2 : Int).toNat) hC21 (by omega); have hy21 : y106.length = (x6_2 : Int).toNat := (by rw [Ny106.out, List.length_take]; omega); rw [← Ny106.out] at hr21; rw [← hy21] at hcut21; have hcut321 := Go.Proofs.YtdnkclccjgcelaaCut3.cut_to3 (P := Try.prog) 22 5 .i64 Try.underlying22 hi021 Ao22 y103.length co22 x6_2 (of_decide_eq_true (by first | (with_reducible assumption) | assumption)) q21 hroom21; rw [← hy21] at hcut321; have HR109 := Aside0.mk hr21; have HC109 := Aside0.mk (show y106.length ≤ co22 from by omega); clear hr21 hC21 hroom21 hi021 hsz21; have KY21 := Aside0.mk hy21; clear hy21; have KL21 := Aside0.mk (show (x6_2 : Int).toNat ≤ y103.length from by omega); replace q21 := eq_true q21) | ((with_reducible refine gate_builtin (b := .append) (xs := #[.tmp 50, .tmp 54]) rfl ?_); at_builtin; refine Kd.R_append_rows (Kd.int .u8) (w0 := w) w.heap.size rfl (.tmp 50) (.tmp 54) 22 5 (.int .u8 0) 1 rfl Try.underlying22 info5 rfl (by decide) (by omega) u4 x4_1 y106 _ _ _ (fun k_ => some k_ ≠ (.slice Ao22 y103.length co22 : Value).ownBlock) (fun _ => False) rfl rfl ?aO ?aR (fun _ _ h => h) (fun _ h => h.elim) ?aF ?aB ?aS ?aL ?_; (case aR => repeat (first | exact (by repeat (first | (with_reducible exact HR109.out) | (with_reducible refine Kd.C_alloc ?_ _) | (with_reducible refine Kd.C_drewN ?_ _) | (with_reducible refine Kd.C_drew ?_) | exact HR109.out)) | (with_reducible refine Kd.C_alloc ?_ _) | (with_reducible refine Kd.C_drewN ?_ _) | (with_reducible refine Kd.C_drew ?_))); (case aB => exact (by repeat (first | (with_reducible first | exact HB.out | apply below_alloc | apply pw_below_drewN | apply below_drew1) | exact HB.out))); (case aF => exact (fun k_ hk => Kd.fresh' (Kd.R_lt (by (with_reducible repeat (first | apply Kd.R_alloc | apply Kd.R_drewN | apply Kd.R_drew)); exact HO105.out)) k_ hk)); (case aO => exact (by (with_reducible repeat (first | apply Kd.R_alloc | apply Kd.R_drewN | apply Kd.R_drew)); exact Kd.R_mono HO_4.out (fun _ hk => hk.2))); (case aS => exact (below_size (by repeat (first | (with_reducible first | exact HB.out | apply below_alloc | apply pw_below_drewN | apply below_drew1) | exact HB.out)))); (case aL => have := LMc17.out; omega); intro v111 w23 ho hb hg hat; rw [← Ny110.out] at ho; have n0_ := Aside0.mk (Kd.R_after (ok := (fun _ => True)) (by (with_reducible repeat (first | apply Kd.R_alloc | apply Kd.R_drewN | apply Kd.R_drew)); exact HO105.out) hg hat); have n1_ := Aside0.mk (hb); have n2_ := Aside0.mk ((show Kd.C (Kd.int .u8) w23 Ao22 y106.length y106 from by rw [Ny106.out]; exact Kd.C_take (m := (x6_2 : Int).toNat) ((Kd.R_reads' (Kd.R_after (ok := (fun _ => True)) (by (with_reducible repeat (first | apply Kd.R_alloc | apply Kd.R_drewN | apply Kd.R_drew)); exact HO105.out) hg hat)).2.2) KL21.out)); have n3_ := Aside0.mk (ho); clear HO105; clear HB; clear HR109; clear HO_4; have HO105 := n0_; have HB := n1_; have HR109 := n2_; have HO112 := n3_; clear n0_ n1_ n2_ n3_; clear ho hb hg hat))
                          go_roundg k2
                          case measure => have := HK1.out; have := HK2.out; omega
                          case rel => exact ⟨(x0_1.extract 4 x0_1.size), (y110), (by first | rfl | (simp; done) | (simp [*]; done)), H', ⟨by have := HK1.out; have := HK2.out; omega⟩, ⟨by (with_reducible repeat (first | apply Kd.R_alloc | apply Kd.R_drewN | apply Kd.R_drew)); exact Kd.R_mono HO112.out (fun _ hk => trivial)⟩, ⟨by repeat (first | (with_reducible first | exact HB.out | apply below_alloc | apply pw_below_drewN | apply below_drew1) | exact HB.out)⟩⟩
                        · rw [if_neg c18] at H
                          exact absurd H (by simp)
                      · rw [if_neg c17] at H
                        exact absurd H (by simp)
                    · rw [if_neg c16] at H
                      exact absurd H (by simp)
                  · rw [if_neg c15] at H
                    exact absurd H (by simp)
          · rw [if_neg c7] at H
            have c7b0 : decide (0 < (x0_1.size : Int)) = false := decide_eq_false c7
            have c7b1 : decide (0 < x0_1.size) = false := decide_eq_false (by omega)
            clear c7
            simp only [Option.some.injEq, Prod.mk.injEq] at H
            obtain ⟨rfl, rfl⟩ := H
            go_wp2
            go_ret2
            exact ⟨_, by first | rfl | (simp [errW_none, errW_some] <;> rfl) | (simp [*, errW_none, errW_some] <;> rfl), by (with_reducible repeat (first | apply Kd.R_alloc | apply Kd.R_drewN | apply Kd.R_drew)); exact HO_4.out, by repeat (first | (with_reducible first | exact HB.out | apply below_alloc | apply pw_below_drewN | apply below_drew1) | exact HB.out)⟩

/-! ### longlinelaw14_alive: function 11 -/
theorem alive14_r1 : base_Read.f 60 (⟨#[84, 87, 69, 61]⟩ : ByteArray) = some ([77, 97], 0) := by kernel_rfl
theorem alive14_r2 : base_Read.f 60 (⟨#[84, 87, 70, 61]⟩ : ByteArray) = some ([], 3) := by kernel_rfl
theorem alive14_w : base_Write.f [77, 97] = some (⟨#[84, 87, 69, 61]⟩ : ByteArray) := by kernel_rfl
theorem alive14_f1 : base_Fault.f 60 (⟨#[84, 87, 61, 65]⟩ : ByteArray) = some 2 := by kernel_rfl
theorem alive14_f2 : base_Fault.f 60 (⟨#[84, 81, 61, 65]⟩ : ByteArray) = some 3 := by kernel_rfl
theorem alive14_f3 : base_Fault.f 60 (⟨#[84, 87, 69]⟩ : ByteArray) = some 3 := by kernel_rfl
theorem alive14_s : base_Size.f 4 = some 8 := by kernel_rfl
def longlinelaw14_alive.f : Option (Bool) := some true
set_option maxHeartbeats 8000000 in
set_option maxRecDepth 100000 in
theorem longlinelaw14_alive.calls (r : Bool) (w : World) (h : longlinelaw14_alive.f = some r) :
    Calls Try.prog 11 #[] w fun e w' => e = .returned (.bool r) ∧ Below w.heap.size w w' := by
  obtain rfl := Option.some.inj h
  clear h
  go_enter Try.func11, Try.ntmps11
  go_wp2_with (go_at_call 15; refine (base_Read.calls 60 _ _ _ w alive14_r1).mono ?_)
  rintro e w1 ⟨v1, rfl, hr1, hb1⟩
  go_wp2_with (go_at_call 15; refine (base_Read.calls 60 _ _ _ w1 alive14_r2).mono ?_)
  rintro e w2 ⟨v2, rfl, hr2, hb2⟩
  have hs1 := Go.Proofs.YtdnkclccjgcelaaCut3.str_of_R hr1
  have hcv := Go.Proofs.YtdnkclccjgcelaaCut3.conv22 #[.int .u8 77, .int .u8 97] 2 2 w2
  have hC := Go.Proofs.YtdnkclccjgcelaaCut3.C_marked w2 [77, 97] (2, 3) (by decide)
  go_wp2_with (go_at_call 12; refine (base_Write.calls _ _ _ _ _ hC (by decide) alive14_w).mono ?_)
  rintro e w3 ⟨rfl, hb3⟩
  have hB2 := hb1.trans (hb2.mono hb1.size)
  have hBa : Below w2.heap.size w2 (w2.alloc (.cells #[Value.int IntKind.u8 77, Value.int IntKind.u8 97] 5 (2, 3))) := below_alloc (Below.refl _ _) _
  have hb3' : Below w2.heap.size w2 w3 := hBa.trans (hb3.mono hBa.size)
  have hB13 : Below w1.heap.size w1 w3 := hb2.trans (hb3'.mono hb2.size)
  have hs3 := hs1 w3 hB13
  have hB3 : Below w.heap.size w w3 := hB2.trans (hb3'.mono hB2.size)
  have hst : strOfNums [77, 97] = (⟨#[77, 97]⟩ : ByteArray) := by kernel_rfl
  rw [hst] at hs3
  clear hs1 hcv hC hr1 hr2 hb1 hb2 hb3 hb3' hBa hB2 hB13
  go_wp2_with (go_at_call 17; refine (base_Fault.calls 60 _ _ _ alive14_f1).mono ?_)
  rintro e w4 ⟨rfl, hb4⟩
  have hB4 : Below w.heap.size w w4 := hB3.trans (hb4.mono hB3.size)
  go_wp2_with (go_at_call 17; refine (base_Fault.calls 60 _ _ _ alive14_f2).mono ?_)
  rintro e w5 ⟨rfl, hb5⟩
  have hB5 : Below w.heap.size w w5 := hB4.trans (hb5.mono hB4.size)
  go_wp2_with (go_at_call 14; refine (base_Size.calls _ _ _ alive14_s).mono ?_)
  rintro e w6 ⟨rfl, ⟨nd, rfl⟩⟩
  have hB6 : Below w.heap.size w (w5.drewN nd) := pw_below_drewN hB5 nd
  go_wp2_with (go_at_call 17; refine (base_Fault.calls 60 _ _ _ alive14_f3).mono ?_)
  rintro e w7 ⟨rfl, hb7⟩
  have hB7 : Below w.heap.size w w7 := hB6.trans (hb7.mono hB6.size)
  go_wp2
  go_ret
  exact ⟨rfl, hB7⟩

/-! ### longlineref14_letter: function 28 -/
def longlineref14_letter.f (a0 : Int) : Option (Int) := if 0 ≤ a0 then (if a0 < 64 then (some (bt (⟨#[65, 66, 67, 68, 69, 70, 71, 72, 73, 74, 75, 76, 77, 78, 79, 80, 81, 82, 83, 84, 85, 86, 87, 88, 89, 90, 97, 98, 99, 100, 101, 102, 103, 104, 105, 106, 107, 108, 109, 110, 111, 112, 113, 114, 115, 116, 117, 118, 119, 120, 121, 122, 48, 49, 50, 51, 52, 53, 54, 55, 56, 57, 43, 47]⟩ : ByteArray) a0)) else (none)) else (none)
set_option maxHeartbeats 8000000 in
set_option maxRecDepth 100000 in
theorem longlineref14_letter.calls (a0 : Int) (r : Int) (w : World) (h : longlineref14_letter.f a0 = some r) :
    Calls Try.prog 28 #[.int .i64 a0] w fun e w' => e = .returned (.int .u8 r) ∧ Drawn0 w w' := by
  have H : (if 0 ≤ a0 then (if a0 < 64 then (some (bt (⟨#[65, 66, 67, 68, 69, 70, 71, 72, 73, 74, 75, 76, 77, 78, 79, 80, 81, 82, 83, 84, 85, 86, 87, 88, 89, 90, 97, 98, 99, 100, 101, 102, 103, 104, 105, 106, 107, 108, 109, 110, 111, 112, 113, 114, 115, 116, 117, 118, 119, 120, 121, 122, 48, 49, 50, 51, 52, 53, 54, 55, 56, 57, 43, 47]⟩ : ByteArray) a0)) else (none)) else (none)) = some r := h
  clear h
  by_cases c2 : 0 ≤ a0
  · rw [if_pos c2] at H
    have c2b0 : decide (0 ≤ a0) = true := decide_eq_true c2
    clear c2
    by_cases c3 : a0 < 64
    · rw [if_pos c3] at H
      have c3b0 : decide (a0 < 64) = true := decide_eq_true c3
      clear c3
      obtain rfl := Option.some.inj H
      have p4 : 0 ≤ (a0 : Int) := of_decide_eq_true (by first | (with_reducible assumption) | assumption)
      have q4 : a0 < (64 : Int) := of_decide_eq_true (by first | (with_reducible assumption) | assumption)
      have hx4 := bt_at (⟨#[65, 66, 67, 68, 69, 70, 71, 72, 73, 74, 75, 76, 77, 78, 79, 80, 81, 82, 83, 84, 85, 86, 87, 88, 89, 90, 97, 98, 99, 100, 101, 102, 103, 104, 105, 106, 107, 108, 109, 110, 111, 112, 113, 114, 115, 116, 117, 118, 119, 120, 121, 122, 48, 49, 50, 51, 52, 53, 54, 55, 56, 57, 43, 47]⟩ : ByteArray) a0
      replace p4 := eq_true p4
      replace q4 := eq_true q4
      go_enter Try.func28, Try.ntmps28
      go_wp2
      go_ret
      exact ⟨by first | rfl | (simp; done) | (simp [*]; done), by repeat (first | exact Drawn0.refl _ | apply Drawn0.step)⟩
    · rw [if_neg c3] at H
      exact absurd H (by simp)
  · rw [if_neg c2] at H
    exact absurd H (by simp)

end Go.Proofs.Ytdnkclccjgcelaa.QBO
